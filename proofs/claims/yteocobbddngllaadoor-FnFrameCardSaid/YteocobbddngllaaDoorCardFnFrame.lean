/- The tied card of the law FnFrame, out of its row and the given tie. -/
import Derived.Test.YteocobbddngllaaDoorLawFnFrame
import Derived.Test.YteocobbddngllaaDoorCards
import Derived.Test.YteocobbddngllaaDoorTie
import Derived.SevenTiedAt
namespace Go.Proofs.YteocobbddngllaaDoor
open Go
theorem fnFrame_card : Rows.FnFrameCardSaid :=
  Claim7.holds_tied_plain_at .later [] [.data, .pinned] true (true, "bc18ed0587ffb87fb23d03c38d165835ee108a81cd1fada220f576076c80c415") false
    fnFrame_holds (fun _ h => by cases h) (by kernel_rfl) (fun _ h => by cases h) fnFrame_row_tie rfl ⟨rfl, rfl⟩ (by kernel_rfl) rfl
    (fun f fn hf hfn => by
      obtain rfl : f = 6 := Option.some.inj ((show Tryd.prog.funcNamed "loop.example/quoin/laws.FnFrame" = some 6 by kernel_rfl).symm.trans hf) |>.symm
      obtain rfl : fn = Tryd.f6 := (Option.some.inj (Tryd.func6.symm.trans hfn)).symm
      exact ⟨by kernel_rfl, fun j t ht => by
        rw [Tryd.params6] at ht
        rcases j with _ | _ | _ | _ | j <;> simp at ht <;> subst ht <;> kernel_rfl⟩)
    (by kernel_rfl)
#print axioms fnFrame_card
end Go.Proofs.YteocobbddngllaaDoor
