/- The tied card of the law FnListWords, out of its row and the given tie. -/
import Derived.Test.YtdlalhphephgeaaDoorLawFnListWords
import Derived.Test.YtdlalhphephgeaaDoorCards
import Derived.Test.YtdlalhphephgeaaDoorTie
import Derived.SevenTiedAt
namespace Go.Proofs.YtdlalhphephgeaaDoor
open Go
theorem fnListWords_card : Rows.FnListWordsCardSaid :=
  Claim7.holds_tied_plain_at .later [] [.data] true (true, "42178d329027114e309c63252a0e71149b2bee721ede0354f7a081c9aee874d4") false
    fnListWords_holds (fun _ h => by cases h) (by kernel_rfl) (fun _ h => by cases h) fnListWords_row_tie rfl ⟨rfl, rfl⟩ (by kernel_rfl) rfl
    (fun f fn hf hfn => by
      obtain rfl : f = 4 := Option.some.inj ((show Tryd.prog.funcNamed "loop.example/quoin/laws.FnListWords" = some 4 by kernel_rfl).symm.trans hf) |>.symm
      obtain rfl : fn = Tryd.f4 := (Option.some.inj (Tryd.func4.symm.trans hfn)).symm
      exact ⟨by kernel_rfl, fun j t ht => by
        rw [Tryd.params4] at ht
        rcases j with _ | _ | _ | _ | j <;> simp at ht <;> subst ht <;> kernel_rfl⟩)
    (by kernel_rfl)
#print axioms fnListWords_card
end Go.Proofs.YtdlalhphephgeaaDoor
