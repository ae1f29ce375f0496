/-
  DERIVED. GIVEN WITH THE SEED: THE CARDS: each row of YteocobbddngllaaDoorRows.lean that lists a variable, with what it lists TIED to the program's text (the seventh form; the later family's looks); each row that meets fmt, with fmt's text TOLD by the authors' own Lean function (tested against real Go, not proved from fmt's source: count such statements apart). THE CARD IS WHAT COUNTS. Prove the row's statement (the work); the ties are given (YteocobbddngllaaDoorTie.lean); close each card by the builder's one call (the guide's Derived/Test/ToyasCard.lean, 'card_holds'). Laid BY PROGRAM, IN A SANDBOX (cutbox-door.mjs). By AI agents, Wed Nov 11 2026. No macro, syntax, notation, axiom, sorry.
-/
import Derived.Test.YteocobbddngllaaDoorRows
import GoSem.ClaimSeven
namespace Go.Proofs.YteocobbddngllaaDoor
namespace Rows

/-- THE TIED CARD OF 'laws.FnExactPack'. -/
def fnExactPackCard : Claim7 := { stood := { row := fnExactPackRow, standIns := [], harness := (true, "bc18ed0587ffb87fb23d03c38d165835ee108a81cd1fada220f576076c80c415"), looks := false }, kinds := [], alts := [], laidByText := true, laidKinds := [.data, .pinned], laidTests := true, laidLooks := .later }
def FnExactPackCardSaid : Prop := Claim7.holds Tryd.pinned (.plain (OpenSpec.ofChange fnExactPackSpec)) fnExactPackCard

/-- THE TIED CARD OF 'laws.FnFramePart'. -/
def fnFramePartCard : Claim7 := { stood := { row := fnFramePartRow, standIns := [], harness := (true, "bc18ed0587ffb87fb23d03c38d165835ee108a81cd1fada220f576076c80c415"), looks := false }, kinds := [], alts := [], laidByText := true, laidKinds := [.data, .pinned], laidTests := true, laidLooks := .later }
def FnFramePartCardSaid : Prop := Claim7.holds Tryd.pinned (.plain (OpenSpec.ofChange fnFramePartSpec)) fnFramePartCard

/-- THE TIED CARD OF 'laws.FnFrameTwo'. -/
def fnFrameTwoCard : Claim7 := { stood := { row := fnFrameTwoRow, standIns := [], harness := (true, "bc18ed0587ffb87fb23d03c38d165835ee108a81cd1fada220f576076c80c415"), looks := false }, kinds := [], alts := [], laidByText := true, laidKinds := [.data, .pinned], laidTests := true, laidLooks := .later }
def FnFrameTwoCardSaid : Prop := Claim7.holds Tryd.pinned (.plain (OpenSpec.ofChange fnFrameTwoSpec)) fnFrameTwoCard

/-- THE TIED CARD OF 'laws.FnFrame'. -/
def fnFrameCard : Claim7 := { stood := { row := fnFrameRow, standIns := [], harness := (true, "bc18ed0587ffb87fb23d03c38d165835ee108a81cd1fada220f576076c80c415"), looks := false }, kinds := [], alts := [], laidByText := true, laidKinds := [.data, .pinned], laidTests := true, laidLooks := .later }
def FnFrameCardSaid : Prop := Claim7.holds Tryd.pinned (.plain (OpenSpec.ofChange fnFrameSpec)) fnFrameCard

/-- THE TIED CARD OF 'laws.FnPackJoin'. -/
def fnPackJoinCard : Claim7 := { stood := { row := fnPackJoinRow, standIns := [], harness := (true, "bc18ed0587ffb87fb23d03c38d165835ee108a81cd1fada220f576076c80c415"), looks := false }, kinds := [], alts := [], laidByText := true, laidKinds := [.data, .pinned], laidTests := true, laidLooks := .later }
def FnPackJoinCardSaid : Prop := Claim7.holds Tryd.pinned (.plain (OpenSpec.ofChange fnPackJoinSpec)) fnPackJoinCard

/-- THE TIED CARD OF 'laws.FnPackZero'. -/
def fnPackZeroCard : Claim7 := { stood := { row := fnPackZeroRow, standIns := [], harness := (true, "bc18ed0587ffb87fb23d03c38d165835ee108a81cd1fada220f576076c80c415"), looks := false }, kinds := [], alts := [], laidByText := true, laidKinds := [.data, .pinned], laidTests := true, laidLooks := .later }
def FnPackZeroCardSaid : Prop := Claim7.holds Tryd.pinned (.plain (OpenSpec.ofChange fnPackZeroSpec)) fnPackZeroCard

/-- THE TIED CARD OF 'laws.FnPack'. -/
def fnPackCard : Claim7 := { stood := { row := fnPackRow, standIns := [], harness := (true, "bc18ed0587ffb87fb23d03c38d165835ee108a81cd1fada220f576076c80c415"), looks := false }, kinds := [], alts := [], laidByText := true, laidKinds := [.data, .pinned], laidTests := true, laidLooks := .later }
def FnPackCardSaid : Prop := Claim7.holds Tryd.pinned (.plain (OpenSpec.ofChange fnPackSpec)) fnPackCard

/-- THE TIED CARD OF 'laws.FnUnpack'. -/
def fnUnpackCard : Claim7 := { stood := { row := fnUnpackRow, standIns := [], harness := (true, "bc18ed0587ffb87fb23d03c38d165835ee108a81cd1fada220f576076c80c415"), looks := false }, kinds := [], alts := [], laidByText := true, laidKinds := [.data, .pinned], laidTests := true, laidLooks := .later }
def FnUnpackCardSaid : Prop := Claim7.holds Tryd.pinned (.plain (OpenSpec.ofChange fnUnpackSpec)) fnUnpackCard

/-- THE SECOND FORM's CARD OF 'laws.FnExactPack'. -/
def fnExactPackUptoCard : Claim7 := { stood := { row := fnExactPackUptoRow, standIns := [], harness := (true, "bc18ed0587ffb87fb23d03c38d165835ee108a81cd1fada220f576076c80c415"), looks := false }, kinds := [], alts := [], laidByText := true, laidKinds := [.data, .pinned], laidTests := true, laidLooks := .later }
def FnExactPackUptoCardSaid : Prop := Claim7.holds Tryd.pinned (.plain (OpenSpec.upto fnExactPackSpec)) fnExactPackUptoCard

/-- THE SECOND FORM's CARD OF 'laws.FnFramePart'. -/
def fnFramePartUptoCard : Claim7 := { stood := { row := fnFramePartUptoRow, standIns := [], harness := (true, "bc18ed0587ffb87fb23d03c38d165835ee108a81cd1fada220f576076c80c415"), looks := false }, kinds := [], alts := [], laidByText := true, laidKinds := [.data, .pinned], laidTests := true, laidLooks := .later }
def FnFramePartUptoCardSaid : Prop := Claim7.holds Tryd.pinned (.plain (OpenSpec.upto fnFramePartSpec)) fnFramePartUptoCard

/-- THE SECOND FORM's CARD OF 'laws.FnFrameTwo'. -/
def fnFrameTwoUptoCard : Claim7 := { stood := { row := fnFrameTwoUptoRow, standIns := [], harness := (true, "bc18ed0587ffb87fb23d03c38d165835ee108a81cd1fada220f576076c80c415"), looks := false }, kinds := [], alts := [], laidByText := true, laidKinds := [.data, .pinned], laidTests := true, laidLooks := .later }
def FnFrameTwoUptoCardSaid : Prop := Claim7.holds Tryd.pinned (.plain (OpenSpec.upto fnFrameTwoSpec)) fnFrameTwoUptoCard

/-- THE SECOND FORM's CARD OF 'laws.FnFrame'. -/
def fnFrameUptoCard : Claim7 := { stood := { row := fnFrameUptoRow, standIns := [], harness := (true, "bc18ed0587ffb87fb23d03c38d165835ee108a81cd1fada220f576076c80c415"), looks := false }, kinds := [], alts := [], laidByText := true, laidKinds := [.data, .pinned], laidTests := true, laidLooks := .later }
def FnFrameUptoCardSaid : Prop := Claim7.holds Tryd.pinned (.plain (OpenSpec.upto fnFrameSpec)) fnFrameUptoCard

/-- THE SECOND FORM's CARD OF 'laws.FnPackJoin'. -/
def fnPackJoinUptoCard : Claim7 := { stood := { row := fnPackJoinUptoRow, standIns := [], harness := (true, "bc18ed0587ffb87fb23d03c38d165835ee108a81cd1fada220f576076c80c415"), looks := false }, kinds := [], alts := [], laidByText := true, laidKinds := [.data, .pinned], laidTests := true, laidLooks := .later }
def FnPackJoinUptoCardSaid : Prop := Claim7.holds Tryd.pinned (.plain (OpenSpec.upto fnPackJoinSpec)) fnPackJoinUptoCard

/-- THE SECOND FORM's CARD OF 'laws.FnPackZero'. -/
def fnPackZeroUptoCard : Claim7 := { stood := { row := fnPackZeroUptoRow, standIns := [], harness := (true, "bc18ed0587ffb87fb23d03c38d165835ee108a81cd1fada220f576076c80c415"), looks := false }, kinds := [], alts := [], laidByText := true, laidKinds := [.data, .pinned], laidTests := true, laidLooks := .later }
def FnPackZeroUptoCardSaid : Prop := Claim7.holds Tryd.pinned (.plain (OpenSpec.upto fnPackZeroSpec)) fnPackZeroUptoCard

/-- THE SECOND FORM's CARD OF 'laws.FnPack'. -/
def fnPackUptoCard : Claim7 := { stood := { row := fnPackUptoRow, standIns := [], harness := (true, "bc18ed0587ffb87fb23d03c38d165835ee108a81cd1fada220f576076c80c415"), looks := false }, kinds := [], alts := [], laidByText := true, laidKinds := [.data, .pinned], laidTests := true, laidLooks := .later }
def FnPackUptoCardSaid : Prop := Claim7.holds Tryd.pinned (.plain (OpenSpec.upto fnPackSpec)) fnPackUptoCard

/-- THE SECOND FORM's CARD OF 'laws.FnUnpack'. -/
def fnUnpackUptoCard : Claim7 := { stood := { row := fnUnpackUptoRow, standIns := [], harness := (true, "bc18ed0587ffb87fb23d03c38d165835ee108a81cd1fada220f576076c80c415"), looks := false }, kinds := [], alts := [], laidByText := true, laidKinds := [.data, .pinned], laidTests := true, laidLooks := .later }
def FnUnpackUptoCardSaid : Prop := Claim7.holds Tryd.pinned (.plain (OpenSpec.upto fnUnpackSpec)) fnUnpackUptoCard
end Rows
end Go.Proofs.YteocobbddngllaaDoor
