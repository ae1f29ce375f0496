/- Whether a number lies between two: the program's and the reference's function. -/
import Derived.Test.YteocobbddngllaaLemBits
import Derived.Test.YteocobbddngllaaPx1
import Derived.Test.YteocobbddngllaaPx6
namespace Go.Proofs.Yteocobbddngllaa.Lem
set_option linter.unusedVariables false
open Go Go.RowKit Go.Proofs.Yteocobbddngllaa.P Go.Proofs.YteocobbddngllaaW.PrintWords Go.Proofs.YteocobbddngllaaW.PrintLast Go.Proofs.YteocobbddngllaaW.PrintMore

theorem l1In_f (n a b : Int) : spec_l1In.f n a b = some (decide (a ≤ n ∧ n ≤ b)) := by
  unfold spec_l1In.f
  by_cases h : a ≤ n
  · rw [if_pos h]; simp [h]
  · rw [if_neg h]; simp [h]
theorem in_f (n a b : Int) : impl_in.f n a b = some (decide (a ≤ n ∧ n ≤ b)) := by
  unfold impl_in.f
  by_cases h : a ≤ n
  · rw [if_pos h]; simp [h]
  · rw [if_neg h]; simp [h]
end Go.Proofs.Yteocobbddngllaa.Lem
