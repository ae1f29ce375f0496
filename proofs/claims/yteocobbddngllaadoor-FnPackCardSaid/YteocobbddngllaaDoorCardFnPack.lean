/- The tied card of the law FnPack, out of its row and the given tie. -/
import Derived.Test.YteocobbddngllaaDoorLawFnPack
import Derived.Test.YteocobbddngllaaDoorCards
import Derived.Test.YteocobbddngllaaDoorTie
import Derived.SevenTiedAt
namespace Go.Proofs.YteocobbddngllaaDoor
open Go
theorem fnPack_card : Rows.FnPackCardSaid :=
  Claim7.holds_tied_plain_at .later [] [.data, .pinned] true (true, "bc18ed0587ffb87fb23d03c38d165835ee108a81cd1fada220f576076c80c415") false
    fnPack_holds (fun _ h => by cases h) (by kernel_rfl) (fun _ h => by cases h) fnPack_row_tie rfl ⟨rfl, rfl⟩ (by kernel_rfl) rfl
    (fun f fn hf hfn => by
      obtain rfl : f = 9 := Option.some.inj ((show Tryd.prog.funcNamed "loop.example/quoin/laws.FnPack" = some 9 by kernel_rfl).symm.trans hf) |>.symm
      obtain rfl : fn = Tryd.f9 := (Option.some.inj (Tryd.func9.symm.trans hfn)).symm
      exact ⟨by kernel_rfl, fun j t ht => by
        rw [Tryd.params9] at ht
        rcases j with _ | _ | _ | _ | j <;> simp at ht <;> subst ht <;> kernel_rfl⟩)
    (by kernel_rfl)
#print axioms fnPack_card
end Go.Proofs.YteocobbddngllaaDoor
