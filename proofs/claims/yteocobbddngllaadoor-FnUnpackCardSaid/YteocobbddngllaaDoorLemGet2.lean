/- What Get answers, of the program and of the reference: one plain function. -/
import Derived.Test.YteocobbddngllaaDoorLemGet
import Derived.Test.YteocobbddngllaaDoorLemIn
import Derived.Test.YteocobbddngllaaDoorPx1
import Derived.Test.YteocobbddngllaaDoorPx5
namespace Go.Proofs.YteocobbddngllaaDoor.Lem
set_option linter.unusedVariables false
open Go Go.RowKit Go.Proofs.YteocobbddngllaaDoor.P Go.Proofs.YteocobbddngllaaDoorW.PrintWords Go.Proofs.YteocobbddngllaaDoorW.PrintLast Go.Proofs.YteocobbddngllaaDoorW.PrintMore

def IsW (s : ByteArray) : Prop := (s.size : Int) % 8 = 0 ∧ (s.size : Int) ≤ 1600
instance (s : ByteArray) : Decidable (IsW s) := inferInstanceAs (Decidable (_ ∧ _))
def IsS (n : Int) : Prop := n = 1 ∨ n = 2 ∨ n = 4 ∨ n = 8
instance (n : Int) : Decidable (IsS n) := inferInstanceAs (Decidable (_ ∨ _))
/-- The number that stands in words at a place. -/
def getV (s : ByteArray) (a n : Int) : Int := if IsW s ∧ IsS n ∧ 0 ≤ a ∧ a ≤ 1600 ∧ a % n = 0 then wrap64 (acc s a n.toNat 0) else 0

theorem l1Ok_f (s : ByteArray) : spec_l1Ok.f s = some (decide (IsW s)) := by
  unfold spec_l1Ok.f IsW
  by_cases h : (s.size : Int) % 8 = 0 <;> simp [h]
theorem isWords_f (s : ByteArray) : impl_isWords.f s = some (decide (IsW s)) := by
  unfold impl_isWords.f IsW
  by_cases h : (s.size : Int) % 8 = 0 <;> simp [h]
theorem isS_pos {n : Int} (h : IsS n) : 0 < n ∧ n ≤ 8 := by unfold IsS at h; omega
end Go.Proofs.YteocobbddngllaaDoor.Lem
