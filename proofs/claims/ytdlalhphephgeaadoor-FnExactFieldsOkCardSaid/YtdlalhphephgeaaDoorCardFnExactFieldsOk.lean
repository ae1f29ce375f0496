/- The tied card of the law FnExactFieldsOk, out of its row and the given tie. -/
import Derived.Test.YtdlalhphephgeaaDoorLawFnExactFieldsOk
import Derived.Test.YtdlalhphephgeaaDoorCards
import Derived.Test.YtdlalhphephgeaaDoorTie
import Derived.SevenTiedAt
namespace Go.Proofs.YtdlalhphephgeaaDoor
open Go
theorem fnExactFieldsOk_card : Rows.FnExactFieldsOkCardSaid :=
  Claim7.holds_tied_plain_at .later [] [.data] true (true, "42178d329027114e309c63252a0e71149b2bee721ede0354f7a081c9aee874d4") false
    fnExactFieldsOk_holds (fun _ h => by cases h) (by kernel_rfl) (fun _ h => by cases h) fnExactFieldsOk_row_tie rfl ⟨rfl, rfl⟩ (by kernel_rfl) rfl
    (fun f fn hf hfn => by
      obtain rfl : f = 5 := Option.some.inj ((show Tryd.prog.funcNamed "loop.example/quoin/laws.FnExactFieldsOk" = some 5 by kernel_rfl).symm.trans hf) |>.symm
      obtain rfl : fn = Tryd.f5 := (Option.some.inj (Tryd.func5.symm.trans hfn)).symm
      exact ⟨by kernel_rfl, fun j t ht => by
        rw [Tryd.params5] at ht
        rcases j with _ | _ | _ | _ | j <;> simp at ht <;> subst ht <;> kernel_rfl⟩)
    (by kernel_rfl)
#print axioms fnExactFieldsOk_card
end Go.Proofs.YtdlalhphephgeaaDoor
