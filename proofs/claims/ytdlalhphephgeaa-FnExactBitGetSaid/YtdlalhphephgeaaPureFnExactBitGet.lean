/- The program's BitGet answers what the reference's does: the pure statement. -/
import Derived.Test.YtdlalhphephgeaaLemBit
import Derived.Test.YtdlalhphephgeaaPx4
namespace Go.Proofs.Ytdlalhphephgeaa.Pure
open Go.RowKit Go.Proofs.Ytdlalhphephgeaa.P Go.Proofs.Ytdlalhphephgeaa.Lem Go.Proofs.YtdlalhphephgeaaW.PrintWords Go.Proofs.YtdlalhphephgeaaW.PrintLast
theorem FnExactBitGet : laws_FnExactBitGet.Pure := by
  intro s a hs ha
  unfold laws_FnExactBitGet.f
  by_cases h : (s.size : Int) > 1048576
  · rw [if_pos h]
  · rw [if_neg h, specBitGet_f, implBitGet_f s a (wf_bounds ha).2]
    simp
end Go.Proofs.Ytdlalhphephgeaa.Pure
