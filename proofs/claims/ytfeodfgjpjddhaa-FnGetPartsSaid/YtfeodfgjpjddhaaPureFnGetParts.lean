/- A number of two halves is both together: the pure statement. -/
import Derived.Test.YtfeodfgjpjddhaaLemDrawPut
import Derived.Test.YtfeodfgjpjddhaaLemPut3
import Derived.Test.YtfeodfgjpjddhaaPx17
namespace Go.Proofs.Ytfeodfgjpjddhaa.Pure
set_option linter.unusedVariables false
open Go.RowKit Go.Proofs.Ytfeodfgjpjddhaa.P Go.Proofs.Ytfeodfgjpjddhaa.Lem Go.Proofs.YtfeodfgjpjddhaaW.PrintWords Go.Proofs.YtfeodfgjpjddhaaW.PrintLast
theorem FnGetParts : laws_FnGetParts.Pure := by
  intro l hl1 hl2 hl
  obtain ⟨k, hk⟩ : ∃ k : Nat, 10000 ≤ k := ⟨10000, Nat.le_refl _⟩
  refine ⟨k + 1, ?_⟩
  unfold laws_FnGetParts.f
  by_cases c1 : (l.length : Int) > 1048576
  · rw [if_pos c1]
  · rw [if_neg c1]
    obtain ⟨s, a, n, e0, hz, h1, h2, h3, h4⟩ := drawGet_f (k + 1) l (by omega) hl
    rw [e0]
    simp only [Option.bind_some]
    rw [implGet_f s a n _ (by omega), specGet_f s a n _ (by omega)]
    simp only [Option.bind_some]
    rw [if_pos trivial]
    have hend : laws_FnGetParts.j0 (k + 1) s a n (getV s a n) true = some true := by
      simp only [laws_FnGetParts.j0]
      rw [if_pos trivial, specGet_f s a n _ (by omega)]
      simp
    by_cases c2 : a < 0
    · rw [if_pos c2]; exact hend
    · rw [if_neg c2]
      by_cases c3 : a > 1500
      · rw [if_pos c3]; exact hend
      · rw [if_neg c3]
        by_cases c4 : a % 8 = 0
        · have e : (Int.tmod a 8 != 0) = false := by rw [Int.tmod_eq_emod_of_nonneg (by omega), c4]; rfl
          rw [e]
          simp only [laws_FnGetParts.j0]
          rw [if_neg (by simp), wrap64_id (n := a + 1) (by omega) (by omega), wrap64_id (n := a + 2) (by omega) (by omega)]
          simp only [implGet_f _ _ _ k (by omega), Option.bind_some]
          have hb := fun i => bt_range s i
          by_cases hw : IsW s
          · have g4 : getV s a 4 = wrap64 (acc s a 4 0) := getV_at hw (by unfold IsS; omega) (by omega) (by omega) (by omega)
            have g2 : getV s a 2 = wrap64 (acc s a 2 0) := getV_at hw (by unfold IsS; omega) (by omega) (by omega) (by omega)
            have g1 : getV s a 1 = wrap64 (acc s a 1 0) := getV_at hw (by unfold IsS; omega) (by omega) (by omega) (by omega)
            have g1' : getV s (a + 1) 1 = wrap64 (acc s (a + 1) 1 0) := getV_at hw (by unfold IsS; omega) (by omega) (by omega) (by omega)
            have g2' : getV s (a + 2) 2 = wrap64 (acc s (a + 2) 2 0) := getV_at hw (by unfold IsS; omega) (by omega) (by omega) (by omega)
            rw [g4, g2, g1, g1', g2']
            simp only [acc, Int.zero_mul, Int.zero_add]
            have b0 := hb (a + 0); have b1 := hb (a + 1); have b2 := hb (a + 2); have b3 := hb (a + 3)
            have e0 : a + ((0 : Nat) : Int) = a + 0 := rfl
            have e1 : a + ((1 : Nat) : Int) = a + 1 := rfl
            have e2 : a + ((2 : Nat) : Int) = a + 2 := rfl
            have e3 : a + ((3 : Nat) : Int) = a + 3 := rfl
            have e4 : a + 1 + ((0 : Nat) : Int) = a + 1 := by omega
            have e5 : a + 2 + ((0 : Nat) : Int) = a + 2 := by omega
            have e6 : a + 2 + ((1 : Nat) : Int) = a + 3 := by omega
            rw [e0, e1, e2, e3, e4, e5, e6]
            generalize bt s (a + 0) = x0 at *
            generalize bt s (a + 1) = x1 at *
            generalize bt s (a + 2) = x2 at *
            generalize bt s (a + 3) = x3 at *
            rw [wrap64_id (n := ((x3 * 256 + x2) * 256 + x1) * 256 + x0) (by omega) (by omega), wrap64_id (n := x1 * 256 + x0) (by omega) (by omega), wrap64_id (n := x0) (by omega) (by omega), wrap64_id (n := x1) (by omega) (by omega),
              wrap64_id (n := x3 * 256 + x2) (by omega) (by omega), wrap64_id (n := 256 * x1) (by omega) (by omega), wrap64_id (n := x0 + 256 * x1) (by omega) (by omega), wrap64_id (n := 65536 * (x3 * 256 + x2)) (by omega) (by omega),
              wrap64_id (n := x1 * 256 + x0 + 65536 * (x3 * 256 + x2)) (by omega) (by omega), if_pos (by omega), if_pos (by omega)]
            simp; omega
          · have hn : ∀ u v, getV s u v = 0 := fun u v => by unfold getV; rw [if_neg (fun h => hw h.1)]
            simp only [hn]
            simp [wrap64]
        · have e : (Int.tmod a 8 != 0) = true := by rw [Int.tmod_eq_emod_of_nonneg (by omega)]; simpa using c4
          rw [e]; exact hend
end Go.Proofs.Ytfeodfgjpjddhaa.Pure
