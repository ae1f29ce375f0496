/- The program's FrameOk answers what the reference's does: the pure statement. -/
import Derived.Test.YtdlalhphephgeaaLemFrameOk
import Derived.Test.YtdlalhphephgeaaPx25
namespace Go.Proofs.Ytdlalhphephgeaa.Pure
set_option linter.unusedVariables false
open Go Go.RowKit Go.Proofs.Ytdlalhphephgeaa.P Go.Proofs.Ytdlalhphephgeaa.Lem Go.Proofs.YtdlalhphephgeaaW.PrintWords Go.Proofs.YtdlalhphephgeaaW.PrintLast
theorem FnExactFrameOk (l : List ByteArray) (hl : l.length ≤ maxLen) (hs : ∀ x ∈ l, x.size ≤ maxLen) : ∃ k, laws_FnExactFrameOk.f k l = some true := by
  obtain ⟨k, hk⟩ : ∃ k : Nat, l.length < k := ⟨l.length + 1, Nat.lt_succ_self _⟩
  refine ⟨k, ?_⟩
  unfold laws_FnExactFrameOk.f
  obtain ⟨r, hr, hp⟩ := sz_f l hl hs k hk
  rw [hr, Option.bind_some]
  by_cases h0 : r < 0
  · rw [if_pos h0]
  · obtain ⟨h1, h2⟩ := hp (by omega)
    rw [if_neg h0, to_f l h1 k hk, Option.bind_some, specFrameOk_f l h1 h2 k hk, Option.bind_some, Option.bind_some, implFrameOk_f l h1 h2 k hk, Option.bind_some, if_neg (by simp), Option.bind_some, eq_f l h1 k hk, Option.bind_some, if_pos rfl]
end Go.Proofs.Ytdlalhphephgeaa.Pure
