/- The program's FramePut answers what the reference's does: the pure statement. -/
import Derived.Test.YteocobbddngllaaLemFrameSpec
import Derived.Test.YteocobbddngllaaStubFramePut
import Derived.Test.YteocobbddngllaaPx10
namespace Go.Proofs.Yteocobbddngllaa.Pure
set_option linter.unusedVariables false
open Go Go.RowKit Go.Proofs.Yteocobbddngllaa Go.Proofs.Yteocobbddngllaa.P Go.Proofs.Yteocobbddngllaa.Lem Go.Proofs.YteocobbddngllaaW.PrintWords Go.Proofs.YteocobbddngllaaW.PrintLast
theorem implFramePut_f (l : List ByteArray) (hl : l.length ≤ 1048576) (hs : ∀ x ∈ l, x.size ≤ 1048576) : impl_FramePut.f l = some (if frameOkV l = true then frameV l else ⟨#[]⟩) := by
  unfold impl_FramePut.f
  rw [if_pos ⟨by omega, fun x hx => by have := hs x hx; omega⟩]
theorem FnExactFramePut (l : List ByteArray) (hl : l.length ≤ maxLen) (hs : ∀ x ∈ l, x.size ≤ maxLen) : ∃ k, laws_FnExactFramePut.f k l = some true := by
  obtain ⟨k, hk, hk2⟩ : ∃ k : Nat, l.length < k ∧ 30 ≤ k := ⟨l.length + 30, by omega, by omega⟩
  refine ⟨k, ?_⟩
  unfold laws_FnExactFramePut.f
  obtain ⟨r, hr, hp⟩ := sz_f l hl hs k hk
  rw [hr, Option.bind_some]
  by_cases h0 : r < 0
  · rw [if_pos h0]
  · obtain ⟨h1, h2⟩ := hp (by omega)
    rw [if_neg h0, to_f l h1 k hk, Option.bind_some, specFramePut_f l h1 h2 k hk hk2, Option.bind_some, Option.bind_some, implFramePut_f l h1 h2, Option.bind_some, if_pos rfl, Option.bind_some, eq_f l h1 k hk, Option.bind_some, if_pos rfl]
end Go.Proofs.Yteocobbddngllaa.Pure
