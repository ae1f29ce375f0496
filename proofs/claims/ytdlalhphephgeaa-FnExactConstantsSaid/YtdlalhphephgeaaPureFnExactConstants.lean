/- The constants are the reference's: the pure statement. -/
import Derived.Test.YtdlalhphephgeaaPx2
namespace Go.Proofs.Ytdlalhphephgeaa.Pure
open Go.RowKit Go.Proofs.Ytdlalhphephgeaa.P Go.Proofs.YtdlalhphephgeaaW.PrintWords Go.Proofs.YtdlalhphephgeaaW.PrintLast
theorem FnExactConstants : laws_FnExactConstants.Pure := by
  unfold laws_FnExactConstants.Pure laws_FnExactConstants.f
  simp
end Go.Proofs.Ytdlalhphephgeaa.Pure
