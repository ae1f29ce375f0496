/- The program's Trim answers what the reference's does: the pure statement. -/
import Derived.Test.YtfeodfgjpjddhaaLemTrim
import Derived.Test.YtfeodfgjpjddhaaPx36
namespace Go.Proofs.Ytfeodfgjpjddhaa.Pure
set_option linter.unusedVariables false
open Go.RowKit Go.Proofs.Ytfeodfgjpjddhaa.P Go.Proofs.Ytfeodfgjpjddhaa.Lem Go.Proofs.YtfeodfgjpjddhaaW.PrintWords Go.Proofs.YtfeodfgjpjddhaaW.PrintLast
theorem FnExactTrim : laws_FnExactTrim.Pure := by
  intro s hs
  obtain ⟨k, hk⟩ : ∃ k : Nat, 10000 ≤ k := ⟨10000, Nat.le_refl _⟩
  refine ⟨k, ?_⟩
  unfold laws_FnExactTrim.f
  by_cases h : (s.size : Int) > 1048576
  · rw [if_pos h]
  · rw [if_neg h, specTrim_f s k (by omega), Option.bind_some, implTrim_f s, Option.bind_some, if_pos rfl]
end Go.Proofs.Ytfeodfgjpjddhaa.Pure
