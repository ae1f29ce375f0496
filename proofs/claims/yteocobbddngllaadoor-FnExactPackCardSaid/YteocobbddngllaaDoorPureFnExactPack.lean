/- The program's Pack answers what the reference's does: the pure statement. -/
import Derived.Test.YteocobbddngllaaDoorLemPackSpec
import Derived.Test.YteocobbddngllaaDoorStubPack
import Derived.Test.YteocobbddngllaaDoorPx6
namespace Go.Proofs.YteocobbddngllaaDoor.Pure
set_option linter.unusedVariables false
open Go Go.RowKit Go.Proofs.YteocobbddngllaaDoor Go.Proofs.YteocobbddngllaaDoor.P Go.Proofs.YteocobbddngllaaDoor.Lem Go.Proofs.YteocobbddngllaaDoorW.PrintWords Go.Proofs.YteocobbddngllaaDoorW.PrintLast
theorem FnExactPack : laws_FnExactPack.Pure := by
  intro a0 _
  obtain ⟨k, hk⟩ : ∃ k : Nat, 1000000 ≤ k := ⟨_, Nat.le_refl _⟩
  refine ⟨k, ?_⟩
  unfold laws_FnExactPack.f
  by_cases h : (a0.size : Int) > 1048576
  · rw [if_pos h]
  · rw [if_neg h, specPack_f a0 k hk, Option.bind_some]
    unfold impl_Pack.f
    rw [Option.bind_some, if_pos rfl]
end Go.Proofs.YteocobbddngllaaDoor.Pure
