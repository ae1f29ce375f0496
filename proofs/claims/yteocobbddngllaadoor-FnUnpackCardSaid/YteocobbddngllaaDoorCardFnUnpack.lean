/- The tied card of the law FnUnpack, out of its row and the given tie. -/
import Derived.Test.YteocobbddngllaaDoorLawFnUnpack
import Derived.Test.YteocobbddngllaaDoorCards
import Derived.Test.YteocobbddngllaaDoorTie
import Derived.SevenTiedAt
namespace Go.Proofs.YteocobbddngllaaDoor
open Go
theorem fnUnpack_card : Rows.FnUnpackCardSaid :=
  Claim7.holds_tied_plain_at .later [] [.data, .pinned] true (true, "bc18ed0587ffb87fb23d03c38d165835ee108a81cd1fada220f576076c80c415") false
    fnUnpack_holds (fun _ h => by cases h) (by kernel_rfl) (fun _ h => by cases h) fnUnpack_row_tie rfl ⟨rfl, rfl⟩ (by kernel_rfl) rfl
    (fun f fn hf hfn => by
      obtain rfl : f = 10 := Option.some.inj ((show Tryd.prog.funcNamed "loop.example/quoin/laws.FnUnpack" = some 10 by kernel_rfl).symm.trans hf) |>.symm
      obtain rfl : fn = Tryd.f10 := (Option.some.inj (Tryd.func10.symm.trans hfn)).symm
      exact ⟨by kernel_rfl, fun j t ht => by
        rw [Tryd.params10] at ht
        rcases j with _ | _ | _ | _ | j <;> simp at ht <;> subst ht <;> kernel_rfl⟩)
    (by kernel_rfl)
#print axioms fnUnpack_card
end Go.Proofs.YteocobbddngllaaDoor
