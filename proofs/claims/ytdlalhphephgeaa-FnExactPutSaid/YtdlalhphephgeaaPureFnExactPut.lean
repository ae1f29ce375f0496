/- The program's Put answers what the reference's does: the pure statement. -/
import Derived.Test.YtdlalhphephgeaaLemPut
import Derived.Test.YtdlalhphephgeaaPx31
namespace Go.Proofs.Ytdlalhphephgeaa.Pure
open Go.RowKit Go.Proofs.Ytdlalhphephgeaa.P Go.Proofs.Ytdlalhphephgeaa.Lem Go.Proofs.YtdlalhphephgeaaW.PrintWords Go.Proofs.YtdlalhphephgeaaW.PrintLast
theorem FnExactPut : laws_FnExactPut.Pure := by
  intro s a n m hs ha hn hm
  have hb := wf_bounds hn
  refine ⟨10, ?_⟩
  unfold laws_FnExactPut.f
  by_cases h : (s.size : Int) > 1048576
  · rw [if_pos h]
  · rw [if_neg h, specPut_f s a n m hb.2 hb.1 10 (by decide), implPut_f s a n m 10 (by decide)]
    simp
end Go.Proofs.Ytdlalhphephgeaa.Pure
