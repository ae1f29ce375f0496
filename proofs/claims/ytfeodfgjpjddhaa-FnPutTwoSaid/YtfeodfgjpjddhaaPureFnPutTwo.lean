/- Numbers put into two places that do not meet stand there in either order: the pure statement. -/
import Derived.Test.YtfeodfgjpjddhaaLemDrawPut
import Derived.Test.YtfeodfgjpjddhaaLemPut3
import Derived.Test.YtfeodfgjpjddhaaPx24
namespace Go.Proofs.Ytfeodfgjpjddhaa.Pure
set_option linter.unusedVariables false
open Go.RowKit Go.Proofs.Ytfeodfgjpjddhaa.P Go.Proofs.Ytfeodfgjpjddhaa.Lem Go.Proofs.YtfeodfgjpjddhaaW.PrintWords Go.Proofs.YtfeodfgjpjddhaaW.PrintLast
theorem FnPutTwo : laws_FnPutTwo.Pure := by
  intro l more hl1 hl2 hl hm1 hm2 hm
  obtain ⟨k, hk⟩ : ∃ k : Nat, 10000 ≤ k := ⟨10000, Nat.le_refl _⟩
  refine ⟨k + 3, ?_⟩
  unfold laws_FnPutTwo.f
  by_cases c1 : (l.length : Int) > 1048576
  · rw [if_pos c1]; simp only [laws_FnPutTwo.j0]; rw [if_pos trivial]
  · rw [if_neg c1]
    by_cases c2 : (more.length : Int) > 1048576
    · simp only [laws_FnPutTwo.j0]; rw [if_pos (by simpa using c2)]
    · simp only [laws_FnPutTwo.j0]
      rw [if_neg (by simpa using c2)]
      obtain ⟨s, a, n, m, e0, hz, h1, h2, h3, h4, h5⟩ := drawPut_f (k + 2) l (by omega) hl
      rw [e0]
      simp only [Option.bind_some]
      rw [implPut_f s a n m _ (by omega), specPut_f s a n m (by omega) (by omega) _ (by omega)]
      simp only [Option.bind_some]
      rw [if_pos trivial, if_neg (by simp)]
      simp only [laws_FnPutTwo.j1]
      by_cases c3 : (putV s a n m).2 = true
      · have hc := putV_can c3
        rw [putV_yes hc]
        simp only [Bool.not_true, Bool.false_eq_true, if_false]
        have hp := isS_pos hc.z; have g0 := hc.lo; have g1 := hc.hi; have hw : (s.size : Int) ≤ 1600 := hc.w.2
        rw [if_neg (by omega)]
        have r1 := Int.emod_nonneg (more.length : Int) (b := (s.size : Int)) (by omega)
        have r2 := Int.emod_lt_of_pos (more.length : Int) (b := (s.size : Int)) (by omega)
        generalize (more.length : Int) % (s.size : Int) = q at *
        rw [wrap64_id (n := a + n) (by omega) (by omega)]
        have hfar : (q < a ∨ a + n ≤ q) → laws_FnPutTwo.j2 (k + 1) s a n m (putX s a n m) q false = some true := by
          intro hq
          simp only [laws_FnPutTwo.j2]
          rw [if_neg (by simp)]
          have f77 : FitsB 77 1 := by right; exact ⟨by omega, by decide⟩
          have z1 : IsS 1 := Or.inl rfl
          have hX : CanPut (putX s a n m) q 1 77 := ⟨putX_w hc, z1, r1, by omega, by rw [putX_size hc]; omega, f77⟩
          have hS : CanPut s q 1 77 := ⟨hc.w, z1, r1, by omega, by omega, f77⟩
          have hB : CanPut (putX s q 1 77) a n m := ⟨putX_w hS, hc.z, hc.lo, hc.al, by rw [putX_size hS]; exact hc.hi, hc.fit⟩
          rw [implPut_f _ q 1 77 _ (by omega), implPut_f s q 1 77 _ (by omega), putV_yes hX, putV_yes hS]
          simp only [Option.bind_some]
          rw [implPut_f _ a n m _ (by omega), putV_yes hB]
          simp only [Option.bind_some, if_true]
          have hcomm : putX (putX s a n m) q 1 77 = putX (putX s q 1 77) a n m := by
            apply bt_ext
            · rw [putX_size hX, putX_size hB, putX_size hc, putX_size hS]
            · intro i hi
              rw [putX_size hX, putX_size hc] at hi
              rw [putX_bt hX i (by rw [putX_size hc]; exact hi), putX_bt hB i (by rw [putX_size hS]; exact hi)]
              by_cases x1 : q ≤ (i : Int) ∧ (i : Int) < q + 1
              · rw [if_pos x1, if_neg (by omega), putX_bt hS i hi, if_pos x1]
              · rw [if_neg x1, putX_bt hc i hi]
                by_cases x2 : a ≤ (i : Int) ∧ (i : Int) < a + n
                · rw [if_pos x2, if_pos x2]
                · rw [if_neg x2, if_neg x2, putX_bt hS i hi, if_neg x1]
          rw [if_pos (by rw [hcomm]), implGet_f _ q 1 _ (by omega), get_put hX (by omega)]
          simp only [Option.bind_some]
          rw [if_pos trivial, hcomm, implGet_f _ a n _ (by omega), get_put hB h5]
          simp
        by_cases c4 : q ≥ a
        · rw [if_pos c4]
          by_cases c5 : q < a + n
          · have e : decide (q < a + n) = true := decide_eq_true c5
            rw [e]
            simp only [laws_FnPutTwo.j2]
            rw [if_pos trivial, implGet_f _ a n _ (by omega), get_put hc h5]
            simp
          · have e : decide (q < a + n) = false := decide_eq_false c5
            rw [e]
            exact hfar (Or.inr (by omega))
        · rw [if_neg c4]
          exact hfar (Or.inl (by omega))
      · have hf : (putV s a n m).2 = false := by simpa using c3
        rw [hf]
        simp
end Go.Proofs.Ytfeodfgjpjddhaa.Pure
