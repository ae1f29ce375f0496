/- The program's Unpack answers what the reference's does: the pure statement. -/
import Derived.Test.YteocobbddngllaaLemUnpSpec
import Derived.Test.YteocobbddngllaaLemUnpImpl
import Derived.Test.YteocobbddngllaaPx26
namespace Go.Proofs.Yteocobbddngllaa.Pure
set_option linter.unusedVariables false
open Go Go.RowKit Go.Proofs.Yteocobbddngllaa.P Go.Proofs.Yteocobbddngllaa.Lem Go.Proofs.YteocobbddngllaaW.PrintWords Go.Proofs.YteocobbddngllaaW.PrintLast
theorem FnExactUnpack : laws_FnExactUnpack.Pure := by
  intro a0 _
  obtain ⟨k, hk⟩ : ∃ k : Nat, 12 * a0.size + 60 ≤ k := ⟨_, Nat.le_refl _⟩
  refine ⟨k, ?_⟩
  unfold laws_FnExactUnpack.f
  by_cases h : (a0.size : Int) > 1048576
  · rw [if_pos h]
  · rw [if_neg h, specUnpack_f a0 (by omega) k (by omega), Option.bind_some, implUnpack_f a0 k hk, Option.bind_some]
    generalize unpV a0 = v
    obtain ⟨x, b⟩ := v
    cases b <;> simp
end Go.Proofs.Yteocobbddngllaa.Pure
