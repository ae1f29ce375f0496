/- The program's PointGet answers what the reference's does: the pure statement. -/
import Derived.Test.YtfeodfgjpjddhaaLemPointGet
import Derived.Test.YtfeodfgjpjddhaaPx42
import Derived.Test.YtfeodfgjpjddhaaPx43
namespace Go.Proofs.Ytfeodfgjpjddhaa.Pure
set_option linter.unusedVariables false
open Go.RowKit Go.Proofs.Ytfeodfgjpjddhaa.P Go.Proofs.Ytfeodfgjpjddhaa.Lem Go.Proofs.YtfeodfgjpjddhaaW.PrintWords Go.Proofs.YtfeodfgjpjddhaaW.PrintLast
theorem FnExactPointGet : laws_FnExactPointGet.Pure := by
  intro s hs
  obtain ⟨k, hk⟩ : ∃ k : Nat, 100 ≤ k := ⟨100, Nat.le_refl _⟩
  refine ⟨k, ?_⟩
  unfold laws_FnExactPointGet.f
  by_cases h : (s.size : Int) > 1048576
  · rw [if_pos h]
  · rw [if_neg h, specPointGet_f s k (by omega), Option.bind_some, implPointGet_f s k (by omega), Option.bind_some]
    unfold laws_eqPoint.f
    simp
end Go.Proofs.Ytfeodfgjpjddhaa.Pure
