/- The program's BitPut answers what the reference's does: the pure statement. -/
import Derived.Test.YtdlalhphephgeaaLemBitPut
import Derived.Test.YtdlalhphephgeaaPx10
namespace Go.Proofs.Ytdlalhphephgeaa.Pure
open Go.RowKit Go.Proofs.Ytdlalhphephgeaa.P Go.Proofs.Ytdlalhphephgeaa.Lem Go.Proofs.YtdlalhphephgeaaW.PrintWords Go.Proofs.YtdlalhphephgeaaW.PrintLast
theorem FnExactBitPut : laws_FnExactBitPut.Pure := by
  intro s a b hs ha hb
  unfold laws_FnExactBitPut.f
  by_cases h : (s.size : Int) > 1048576
  · rw [if_pos h]
  · rw [if_neg h, specBitPut_f, implBitPut_f s a b (wf_bounds ha).2]
    simp
end Go.Proofs.Ytdlalhphephgeaa.Pure
