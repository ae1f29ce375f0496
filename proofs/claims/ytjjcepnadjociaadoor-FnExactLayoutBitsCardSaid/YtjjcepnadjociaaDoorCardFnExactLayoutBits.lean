/- The tied card of the law FnExactLayoutBits, out of its row and the given tie. -/
import Derived.Test.YtjjcepnadjociaaDoorLawFnExactLayoutBits
import Derived.Test.YtjjcepnadjociaaDoorCards
import Derived.Test.YtjjcepnadjociaaDoorTie
import Derived.SevenTiedAt
namespace Go.Proofs.YtjjcepnadjociaaDoor
open Go
theorem fnExactLayoutBits_card : Rows.FnExactLayoutBitsCardSaid :=
  Claim7.holds_tied_plain_at .later [] [.data] true (true, "9be5c0d80784b63c5584c22302b217e9ad7ab2f641041c16e4ffd870c55871c5") false
    fnExactLayoutBits_holds (fun _ h => by cases h) (by kernel_rfl) (fun _ h => by cases h) fnExactLayoutBits_row_tie rfl ⟨rfl, rfl⟩ (by kernel_rfl) rfl
    (fun f fn hf hfn => by
      obtain rfl : f = 4 := Option.some.inj ((show Tryd.prog.funcNamed "loop.example/quoin/laws.FnExactLayoutBits" = some 4 by kernel_rfl).symm.trans hf) |>.symm
      obtain rfl : fn = Tryd.f4 := (Option.some.inj (Tryd.func4.symm.trans hfn)).symm
      exact ⟨by kernel_rfl, fun j t ht => by
        rw [Tryd.params4] at ht
        rcases j with _ | _ | _ | _ | j <;> simp at ht <;> subst ht <;> kernel_rfl⟩)
    (by kernel_rfl)
#print axioms fnExactLayoutBits_card
end Go.Proofs.YtjjcepnadjociaaDoor
