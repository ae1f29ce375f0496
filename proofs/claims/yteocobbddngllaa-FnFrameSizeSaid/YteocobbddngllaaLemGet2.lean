/- What Get answers, of the program and of the reference: one plain function. -/
import Derived.Test.YteocobbddngllaaLemGet
import Derived.Test.YteocobbddngllaaLemIn
import Derived.Test.YteocobbddngllaaPx17
import Derived.Test.YteocobbddngllaaPx18
import Derived.Test.YteocobbddngllaaPx20
namespace Go.Proofs.Yteocobbddngllaa.Lem
set_option linter.unusedVariables false
open Go Go.RowKit Go.Proofs.Yteocobbddngllaa.P Go.Proofs.YteocobbddngllaaW.PrintWords Go.Proofs.YteocobbddngllaaW.PrintLast Go.Proofs.YteocobbddngllaaW.PrintMore

def IsW (s : ByteArray) : Prop := (s.size : Int) % 8 = 0 ∧ (s.size : Int) ≤ 1600
instance (s : ByteArray) : Decidable (IsW s) := inferInstanceAs (Decidable (_ ∧ _))
def IsS (n : Int) : Prop := n = 1 ∨ n = 2 ∨ n = 4 ∨ n = 8
instance (n : Int) : Decidable (IsS n) := inferInstanceAs (Decidable (_ ∨ _))
/-- The number that stands in words at a place. -/
def getV (s : ByteArray) (a n : Int) : Int := if IsW s ∧ IsS n ∧ 0 ≤ a ∧ a ≤ 1600 ∧ a % n = 0 then wrap64 (acc s a n.toNat 0) else 0

theorem isWords_f (s : ByteArray) : impl_isWords.f s = some (decide (IsW s)) := by
  unfold impl_isWords.f IsW
  by_cases h : (s.size : Int) % 8 = 0 <;> simp [h]
theorem isSize_f (n : Int) : impl_isSize.f n = some (decide (IsS n)) := by
  unfold impl_isSize.f IsS
  by_cases h1 : n = 1
  · simp [h1]
  · by_cases h2 : n = 2
    · simp [h2]
    · by_cases h4 : n = 4
      · simp [h4]
      · simp only [h1, h2, h4, if_false, false_or]
        by_cases h8 : n = 8 <;> simp [h8]
theorem isS_pos {n : Int} (h : IsS n) : 0 < n ∧ n ≤ 8 := by unfold IsS at h; omega
theorem isPlace_f (a n : Int) : impl_isPlace.f a n = some (decide (IsS n ∧ 0 ≤ a ∧ a ≤ 1600 ∧ a % n = 0)) := by
  unfold impl_isPlace.f
  rw [isSize_f, in_f]
  simp only [Option.bind_some]
  by_cases h2 : IsS n
  · have hp := isS_pos h2
    rw [if_pos (by simpa using h2)]
    by_cases h3 : 0 ≤ a ∧ a ≤ 1600
    · rw [if_pos (by simpa using h3), if_neg (by omega), Int.tmod_eq_emod_of_nonneg h3.1]
      simp [h2, h3, Bool.beq_eq_decide_eq]
    · rw [if_neg (by simpa using h3)]
      congr 1; symm; rw [decide_eq_false_iff_not]; exact fun h => h3 ⟨h.2.1, h.2.2.1⟩
  · rw [if_neg (by simpa using h2)]
    simp [h2]
theorem implGet_f (s : ByteArray) (a n : Int) (k : Nat) (hk : 8 < k) : impl_Get.f k s a n = some (getV s a n) := by
  unfold impl_Get.f getV
  rw [isWords_f, isPlace_f]
  simp only [Option.bind_some]
  by_cases h1 : IsW s
  · rw [if_pos (by simpa using h1)]
    by_cases h2 : IsS n ∧ 0 ≤ a ∧ a ≤ 1600 ∧ a % n = 0
    · have hp := isS_pos h2.1
      rw [if_pos (by simpa using h2), if_pos ⟨h1, h2⟩, fetch_f s a n h2.2.1 (by omega) (by omega) (by omega) k (by omega)]
      rfl
    · rw [if_neg (by simpa using h2), if_neg (fun h => h2 h.2)]
  · rw [if_neg (by simpa using h1), if_neg (fun h => h1 h.1)]
end Go.Proofs.Yteocobbddngllaa.Lem
