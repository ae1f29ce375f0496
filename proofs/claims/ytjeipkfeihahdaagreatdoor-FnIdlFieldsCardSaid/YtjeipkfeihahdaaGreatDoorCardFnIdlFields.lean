/- The tied card of the law FnIdlFields, out of its row and the given tie. -/
import Derived.Test.YtjeipkfeihahdaaGreatDoorLawFnIdlFields
import Derived.Test.YtjeipkfeihahdaaGreatDoorCards
import Derived.Test.YtjeipkfeihahdaaGreatDoorTie
import Derived.SevenTiedAt
namespace Go.Proofs.YtjeipkfeihahdaaGreatDoor
open Go
theorem fnIdlFields_card : Rows.FnIdlFieldsCardSaid :=
  Claim7.holds_tied_plain_at .later [] [.data, .mapped] true (true, "8dd0b040ec5a5764e30a7c030233bccf4f8a5d5ede0329548e222897fa649569") false
    fnIdlFields_holds (fun _ h => by cases h) (by kernel_rfl) (fun _ h => by cases h) fnIdlFields_row_tie rfl ⟨rfl, rfl⟩ (by kernel_rfl) rfl
    (fun f fn hf hfn => by
      obtain rfl : f = 4 := Option.some.inj ((show Tryz.prog.funcNamed "loop.example/quoin/laws.FnIdlFields" = some 4 by kernel_rfl).symm.trans hf) |>.symm
      obtain rfl : fn = Tryz.f4 := (Option.some.inj (Tryz.func4.symm.trans hfn)).symm
      exact ⟨by kernel_rfl, fun j t ht => by
        rw [Tryz.params4] at ht
        rcases j with _ | _ | _ | _ | j <;> simp at ht <;> subst ht <;> kernel_rfl⟩)
    (by kernel_rfl)
#print axioms fnIdlFields_card
end Go.Proofs.YtjeipkfeihahdaaGreatDoor
