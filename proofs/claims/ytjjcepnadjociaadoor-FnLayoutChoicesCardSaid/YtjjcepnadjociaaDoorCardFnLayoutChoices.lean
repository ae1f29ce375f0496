/- The tied card of the law FnLayoutChoices, out of its row and the given tie. -/
import Derived.Test.YtjjcepnadjociaaDoorLawFnLayoutChoices
import Derived.Test.YtjjcepnadjociaaDoorCards
import Derived.Test.YtjjcepnadjociaaDoorTie
import Derived.SevenTiedAt
namespace Go.Proofs.YtjjcepnadjociaaDoor
open Go
theorem fnLayoutChoices_card : Rows.FnLayoutChoicesCardSaid :=
  Claim7.holds_tied_plain_at .later [] [.data] true (true, "9be5c0d80784b63c5584c22302b217e9ad7ab2f641041c16e4ffd870c55871c5") false
    fnLayoutChoices_holds (fun _ h => by cases h) (by kernel_rfl) (fun _ h => by cases h) fnLayoutChoices_row_tie rfl ⟨rfl, rfl⟩ (by kernel_rfl) rfl
    (fun f fn hf hfn => by
      obtain rfl : f = 8 := Option.some.inj ((show Tryd.prog.funcNamed "loop.example/quoin/laws.FnLayoutChoices" = some 8 by kernel_rfl).symm.trans hf) |>.symm
      obtain rfl : fn = Tryd.f8 := (Option.some.inj (Tryd.func8.symm.trans hfn)).symm
      exact ⟨by kernel_rfl, fun j t ht => by
        rw [Tryd.params8] at ht
        rcases j with _ | _ | _ | _ | j <;> simp at ht <;> subst ht <;> kernel_rfl⟩)
    (by kernel_rfl)
#print axioms fnLayoutChoices_card
end Go.Proofs.YtjjcepnadjociaaDoor
