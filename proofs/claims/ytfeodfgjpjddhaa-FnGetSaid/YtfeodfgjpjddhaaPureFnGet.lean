/- A number that was put into bytes is got from them: the pure statement. -/
import Derived.Test.YtfeodfgjpjddhaaLemDrawPut
import Derived.Test.YtfeodfgjpjddhaaLemPut3
import Derived.Test.YtfeodfgjpjddhaaPx32
namespace Go.Proofs.Ytfeodfgjpjddhaa.Pure
set_option linter.unusedVariables false
open Go.RowKit Go.Proofs.Ytfeodfgjpjddhaa.P Go.Proofs.Ytfeodfgjpjddhaa.Lem Go.Proofs.YtfeodfgjpjddhaaW.PrintWords Go.Proofs.YtfeodfgjpjddhaaW.PrintLast
theorem FnGet : laws_FnGet.Pure := by
  intro l hl1 hl2 hl
  obtain ⟨k, hk⟩ : ∃ k : Nat, 10000 ≤ k := ⟨10000, Nat.le_refl _⟩
  refine ⟨k + 1, ?_⟩
  unfold laws_FnGet.f
  by_cases c1 : (l.length : Int) > 1048576
  · rw [if_pos c1]
  · rw [if_neg c1]
    obtain ⟨s, a, n, m, e0, hz, h1, h2, h3, h4, h5⟩ := drawPut_f (k + 1) l (by omega) hl
    rw [e0]
    simp only [Option.bind_some]
    rw [implPut_f s a n m _ (by omega), specPut_f s a n m (by omega) (by omega) _ (by omega)]
    simp only [Option.bind_some]
    rw [if_pos trivial, if_neg (by simp), implGet_f s a n _ (by omega), specGet_f s a n _ (by omega)]
    simp only [Option.bind_some]
    rw [if_pos trivial]
    simp only [laws_FnGet.j0]
    by_cases c2 : (putV s a n m).2 = true
    · have hc := putV_can c2
      rw [putV_yes hc]
      simp only [Bool.not_true, Bool.false_eq_true, if_false]
      rw [implGet_f s a n _ (by omega)]
      simp only [Option.bind_some]
      rw [implPut_f _ a n _ k (by omega), putV_yes (canBack hc), put_back hc]
      simp only [Option.bind_some]
      rw [implGet_f _ a n _ (by omega), get_put hc h5]
      simp only [Option.bind_some]
      rw [if_pos trivial, if_pos trivial, if_pos trivial, putX_size hc]
      simp
    · have hf : (putV s a n m).2 = false := by simpa using c2
      rw [hf]
      simp only [Bool.not_false, if_true]
      rw [if_pos (by simp), implGet_f s a n _ (by omega)]
      simp only [Option.bind_some]
      rw [specGet_f s a n _ (by omega)]
      simp
end Go.Proofs.Ytfeodfgjpjddhaa.Pure
