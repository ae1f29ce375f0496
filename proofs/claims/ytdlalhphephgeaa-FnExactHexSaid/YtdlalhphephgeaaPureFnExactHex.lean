/- The program's Hex answers what the reference's does: the pure statement. -/
import Derived.Test.YtdlalhphephgeaaLemHex
import Derived.Test.YtdlalhphephgeaaPx6
namespace Go.Proofs.Ytdlalhphephgeaa.Pure
open Go.RowKit Go.Proofs.Ytdlalhphephgeaa.P Go.Proofs.Ytdlalhphephgeaa.Lem Go.Proofs.YtdlalhphephgeaaW.PrintWords Go.Proofs.YtdlalhphephgeaaW.PrintLast
theorem FnExactHex : laws_FnExactHex.Pure := by
  intro s hs
  refine ⟨s.size + 1, ?_⟩
  unfold laws_FnExactHex.f
  by_cases h : (s.size : Int) > 1048576
  · rw [if_pos h]
  · rw [if_neg h, specHex_f s (by omega) _ (by omega), implHex_f s (by omega)]
    simp
end Go.Proofs.Ytdlalhphephgeaa.Pure
