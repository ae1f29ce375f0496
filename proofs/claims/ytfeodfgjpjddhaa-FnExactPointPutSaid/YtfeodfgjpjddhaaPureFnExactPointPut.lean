/- The program's PointPut answers what the reference's does: the pure statement. -/
import Derived.Test.YtfeodfgjpjddhaaLemPointPut
import Derived.Test.YtfeodfgjpjddhaaPx46
import Derived.Test.YtfeodfgjpjddhaaPx49
namespace Go.Proofs.Ytfeodfgjpjddhaa.Pure
set_option linter.unusedVariables false
open Go.RowKit Go.Proofs.Ytfeodfgjpjddhaa.P Go.Proofs.Ytfeodfgjpjddhaa.Lem Go.Proofs.YtfeodfgjpjddhaaW.PrintWords Go.Proofs.YtfeodfgjpjddhaaW.PrintLast
theorem FnExactPointPut (a b c d e f g : Int) (h : Bool) (_ : (Lit.int .i64 a).wf = true) (_ : (Lit.int .i64 b).wf = true) (_ : (Lit.int .i64 c).wf = true) (_ : (Lit.int .i64 d).wf = true) (_ : (Lit.int .i64 e).wf = true) (_ : (Lit.int .i64 f).wf = true) (_ : (Lit.int .i64 g).wf = true) :
    ∃ k, laws_FnExactPointPut.f k a b c d e f g h = some true := by
  obtain ⟨k, hk⟩ : ∃ k : Nat, 100 ≤ k := ⟨100, Nat.le_refl _⟩
  refine ⟨k, ?_⟩
  unfold laws_FnExactPointPut.f laws_toPoint.f
  rw [Option.bind_some, specPointPut_f _ _ _ _ _ _ _ _ k (by omega), Option.bind_some, Option.bind_some, implPointPut_f _ _ _ _ _ _ _ _ k (by omega), Option.bind_some, if_pos rfl]
end Go.Proofs.Ytfeodfgjpjddhaa.Pure
