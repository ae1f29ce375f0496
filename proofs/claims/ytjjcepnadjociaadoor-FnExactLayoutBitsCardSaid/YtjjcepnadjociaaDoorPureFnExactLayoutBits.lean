/- The program's LayoutBits answers what the reference's does: the pure statement. -/
import Derived.Test.YtjjcepnadjociaaDoorLemLayoutAll
import Derived.Test.YtjjcepnadjociaaDoorPx18
namespace Go.Proofs.YtjjcepnadjociaaDoor.Pure
set_option linter.unusedVariables false
set_option linter.unusedSimpArgs false
open Go Go.RowKit Go.Proofs.YtjjcepnadjociaaDoor Go.Proofs.YtjjcepnadjociaaDoor.P Go.Proofs.YtjjcepnadjociaaDoor.Lem Go.Proofs.YtjjcepnadjociaaDoorW.PrintWords Go.Proofs.YtjjcepnadjociaaDoorW.PrintLast
theorem FnExactLayoutBits (l : List S61) (a1 : Int) (hl : l.length ≤ maxLen) : ∃ k, laws_FnExactLayoutBits.f k l a1 = some true := by
  obtain ⟨k, hk⟩ : ∃ k : Nat, l.length + 3 < k := ⟨l.length + 4, by omega⟩
  refine ⟨k, ?_⟩
  obtain ⟨k, rfl⟩ : ∃ m, k = m + 1 := ⟨k - 1, by omega⟩
  unfold laws_FnExactLayoutBits.f
  obtain ⟨r, hr, hp⟩ := sz_f l hl
  rw [hr, Option.bind_some]
  by_cases h0 : r < 0
  · rw [if_pos h0]
  · have h1 := hp (by omega)
    have h2 : (l.map conv).length ≤ 1048576 := by simpa using h1
    have h3 : (l.map conv).length + 2 < k := by simp only [List.length_map]; omega
    rw [if_neg h0, to_f l h1 (k + 1) (by omega), Option.bind_some, specBits_f _ h2 a1 (k + 1) (by omega)]
    obtain ⟨r, hr⟩ : ∃ r, impl_LayoutBits.f (l.map conv) a1 = some r := by
      unfold impl_LayoutBits.f
      split <;> exact ⟨_, rfl⟩
    simp only [hr, to_f l h1 (k + 1) (by omega), Option.bind_some, bne_self_eq_false, if_true, laws_FnExactLayoutBits.j0, Bool.false_eq_true, if_false]
    rw [to_f l h1 k (by omega), Option.bind_some, eq_f _ h2 k (by omega), Option.bind_some, if_pos rfl]
end Go.Proofs.YtjjcepnadjociaaDoor.Pure
