/- The program's PointOk answers what the reference's does: the pure statement. -/
import Derived.Test.YtdlalhphephgeaaLemPointOk
import Derived.Test.YtdlalhphephgeaaPx17
import Derived.Test.YtdlalhphephgeaaPx19
namespace Go.Proofs.Ytdlalhphephgeaa.Pure
set_option linter.unusedVariables false
open Go.RowKit Go.Proofs.Ytdlalhphephgeaa.P Go.Proofs.Ytdlalhphephgeaa.Lem Go.Proofs.YtdlalhphephgeaaW.PrintWords Go.Proofs.YtdlalhphephgeaaW.PrintLast
theorem FnExactPointOk (a b c d e f g : Int) (h : Bool) (_ : (Lit.int .i64 a).wf = true) (_ : (Lit.int .i64 b).wf = true) (_ : (Lit.int .i64 c).wf = true) (_ : (Lit.int .i64 d).wf = true) (_ : (Lit.int .i64 e).wf = true) (_ : (Lit.int .i64 f).wf = true) (_ : (Lit.int .i64 g).wf = true) :
    ∃ k, laws_FnExactPointOk.f k a b c d e f g h = some true := by
  refine ⟨10, ?_⟩
  unfold laws_FnExactPointOk.f laws_toPoint.f
  simp only [Option.bind_some, specPointOk_f _ _ _ _ _ _ _ _ _ (by decide : 3 < 10), implPointOk_f]
  simp
end Go.Proofs.Ytdlalhphephgeaa.Pure
