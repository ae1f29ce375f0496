/- The program's FieldsOk answers what the reference's does: the pure statement. -/
import Derived.Test.YtdlalhphephgeaaDoorLemFieldsOk
import Derived.Test.YtdlalhphephgeaaDoorPx13
namespace Go.Proofs.YtdlalhphephgeaaDoor.Pure
set_option linter.unusedVariables false
open Go Go.RowKit Go.Proofs.YtdlalhphephgeaaDoor Go.Proofs.YtdlalhphephgeaaDoor.P Go.Proofs.YtdlalhphephgeaaDoor.Lem Go.Proofs.YtdlalhphephgeaaDoorW.PrintWords Go.Proofs.YtdlalhphephgeaaDoorW.PrintLast
theorem FnExactFieldsOk (l : List S44) (hl : l.length ≤ maxLen) : ∃ k, laws_FnExactFieldsOk.f k l = some true := by
  obtain ⟨k, hk⟩ : ∃ k : Nat, l.length < k := ⟨l.length + 1, Nat.lt_succ_self _⟩
  refine ⟨k, ?_⟩
  unfold laws_FnExactFieldsOk.f
  obtain ⟨r, hr, hp⟩ := sz_f l hl
  rw [hr, Option.bind_some]
  by_cases h0 : r < 0
  · rw [if_pos h0]
  · have h1 := hp (by omega)
    have h2 : (l.map conv).length ≤ 1048576 := by simpa using h1
    have h3 : (l.map conv).length < k := by simpa using hk
    rw [if_neg h0, to_f l h1 k hk, Option.bind_some, spec_f _ h2 k h3]
    unfold impl_FieldsOk.f
    rw [Option.bind_some, Option.bind_some, Option.bind_some, if_neg (by simp), Option.bind_some, eq_f _ h2 k h3, Option.bind_some, if_pos rfl]
end Go.Proofs.YtdlalhphephgeaaDoor.Pure
