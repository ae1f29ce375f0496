/- What is unpacked is words, and packed again it is unpacked as the same: the pure statement. -/
import Derived.Test.YteocobbddngllaaDoorLemC
import Derived.Test.YteocobbddngllaaDoorPx41
namespace Go.Proofs.YteocobbddngllaaDoor.Pure
set_option linter.unusedVariables false
open Go Go.RowKit Go.Proofs.YteocobbddngllaaDoor Go.Proofs.YteocobbddngllaaDoor.P Go.Proofs.YteocobbddngllaaDoor.Lem Go.Proofs.YteocobbddngllaaDoorW.PrintWords Go.Proofs.YteocobbddngllaaDoorW.PrintLast
theorem FnUnpack : laws_FnUnpack.Pure := by
  intro l0 _ _ hw
  obtain ⟨k, hk⟩ : ∃ k : Nat, 100000000 ≤ k := ⟨_, Nat.le_refl _⟩
  refine ⟨k + 1, ?_⟩
  unfold laws_FnUnpack.f
  by_cases h : (l0.length : Int) > 1048576
  · rw [if_pos h]
  · rw [if_neg h]
    obtain ⟨s, e, hs⟩ := drawUnpack_f (k + 1) l0 (by omega) hw
    rw [e, Option.bind_some, implUnpack_f s (k + 1) (by omega), Option.bind_some, specUnpack_f s (by omega) (k + 1) (by omega), Option.bind_some, if_pos rfl, if_neg (by simp)]
    have hW := unpV_words s
    generalize unpV s = v at *
    obtain ⟨x, b⟩ := v
    simp only [laws_FnUnpack.j0]
    cases b with
    | false => simp
    | true =>
      have hw1 : IsW x := hW rfl
      rw [if_neg (by decide), implPack_f, Option.bind_some, implUnpack_f (packW x) k (by have := packW_size x; omega), Option.bind_some, unp_back x hw1]
      have h1 : (x.size : Int) % 8 = 0 := hw1.1
      have h2 : (x.size : Int) ≤ 1600 := hw1.2
      rw [if_pos h1, if_pos h2, if_pos rfl]
      simp
end Go.Proofs.YteocobbddngllaaDoor.Pure
