/- The tied card of the law FnIdlCheck, out of its row and the given tie. -/
import Derived.Test.YtjeipkfeihahdaaDoorLawFnIdlCheck
import Derived.Test.YtjeipkfeihahdaaDoorCards
import Derived.Test.YtjeipkfeihahdaaDoorTie
import Derived.SevenTiedAt
namespace Go.Proofs.YtjeipkfeihahdaaDoor
open Go
theorem fnIdlCheck_card : Rows.FnIdlCheckCardSaid :=
  Claim7.holds_tied_plain_at .later [] [.data, .mapped] true (true, "f15003af8a9360aba44ea3b03bcfc2a33bb3977f906141b23ad016b164e6b3c0") false
    fnIdlCheck_holds (fun _ h => by cases h) (by kernel_rfl) (fun _ h => by cases h) fnIdlCheck_row_tie rfl ⟨rfl, rfl⟩ (by kernel_rfl) rfl
    (fun f fn hf hfn => by
      obtain rfl : f = 3 := Option.some.inj ((show Tryd.prog.funcNamed "loop.example/quoin/laws.FnIdlCheck" = some 3 by kernel_rfl).symm.trans hf) |>.symm
      obtain rfl : fn = Tryd.f3 := (Option.some.inj (Tryd.func3.symm.trans hfn)).symm
      exact ⟨by kernel_rfl, fun j t ht => by
        rw [Tryd.params3] at ht
        rcases j with _ | _ | _ | _ | j <;> simp at ht <;> subst ht <;> kernel_rfl⟩)
    (by kernel_rfl)
#print axioms fnIdlCheck_card
end Go.Proofs.YtjeipkfeihahdaaDoor
