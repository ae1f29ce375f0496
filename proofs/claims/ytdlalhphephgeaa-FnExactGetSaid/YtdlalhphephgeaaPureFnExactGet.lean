/- The program's Get answers what the reference's does: the pure statement. -/
import Derived.Test.YtdlalhphephgeaaLemGet2
import Derived.Test.YtdlalhphephgeaaPx15
namespace Go.Proofs.Ytdlalhphephgeaa.Pure
open Go.RowKit Go.Proofs.Ytdlalhphephgeaa.P Go.Proofs.Ytdlalhphephgeaa.Lem Go.Proofs.YtdlalhphephgeaaW.PrintWords Go.Proofs.YtdlalhphephgeaaW.PrintLast
theorem FnExactGet : laws_FnExactGet.Pure := by
  intro s a n hs ha hn
  refine ⟨9, ?_⟩
  unfold laws_FnExactGet.f
  by_cases h : (s.size : Int) > 1048576
  · rw [if_pos h]
  · rw [if_neg h, specGet_f s a n 9 (by decide), implGet_f s a n 9 (by decide)]
    simp
end Go.Proofs.Ytdlalhphephgeaa.Pure
