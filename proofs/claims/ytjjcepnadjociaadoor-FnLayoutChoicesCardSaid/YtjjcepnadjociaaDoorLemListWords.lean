/- How many words a list takes: the two packages answer alike. -/
import Derived.Test.YtjjcepnadjociaaDoorLemBits
import Derived.Test.YtjjcepnadjociaaDoorStubSizes
import Derived.Test.YtjjcepnadjociaaDoorPx6
import Derived.Test.YtjjcepnadjociaaDoorPx7
namespace Go.Proofs.YtjjcepnadjociaaDoor.Lem
set_option linter.unusedVariables false
open Go Go.RowKit Go.Proofs.YtjjcepnadjociaaDoor Go.Proofs.YtjjcepnadjociaaDoor.P Go.Proofs.YtjjcepnadjociaaDoorW.PrintWords Go.Proofs.YtjjcepnadjociaaDoorW.PrintLast Go.Proofs.YtjjcepnadjociaaDoorW.PrintMore
/-- The number of words. -/
def words (a0 a1 : Int) : Int := if 0 ≤ a0 ∧ a0 ≤ 6 ∧ 0 ≤ a1 ∧ a1 ≤ 1000000 then (bitsOf a0 * a1 + 63) / 64 else -1
theorem in_f (a b c : Int) : spec_l1In.f a b c = some (decide (b ≤ a ∧ a ≤ c)) := by
  unfold spec_l1In.f
  by_cases h : a ≥ b
  · rw [if_pos h]; congr 1; rw [decide_eq_decide]; omega
  · rw [if_neg h]; congr 1; symm; rw [decide_eq_false_iff_not]; omega
theorem iin_f (a b c : Int) : impl_in.f a b c = some (decide (b ≤ a ∧ a ≤ c)) := by
  unfold impl_in.f
  by_cases h : a ≥ b
  · rw [if_pos h]; congr 1; rw [decide_eq_decide]; omega
  · rw [if_neg h]; congr 1; symm; rw [decide_eq_false_iff_not]; omega
theorem bits_f (a : Int) (h : 0 ≤ a ∧ a ≤ 6) : spec_l2Bits.f a = some (bitsOf a) := by
  unfold spec_l2Bits.f
  simp only [Option.bind_some, List.length_cons, List.length_nil]
  rw [if_pos h.1, if_pos (by omega)]
  rfl
theorem mul_ok (a0 a1 : Int) (h : 0 ≤ a1 ∧ a1 ≤ 1000000) : 0 ≤ bitsOf a0 * a1 ∧ bitsOf a0 * a1 ≤ 64 * 1000000 :=
  ⟨Int.mul_nonneg (bitsOf_range a0).1 h.1, Int.mul_le_mul (bitsOf_range a0).2 h.2 h.1 (by decide)⟩
theorem words_range (a0 a1 : Int) : -1 ≤ words a0 a1 ∧ words a0 a1 ≤ 1000000 := by
  unfold words
  split
  · rename_i h
    have hm := mul_ok a0 a1 ⟨h.2.2.1, h.2.2.2⟩
    generalize bitsOf a0 * a1 = m at *
    omega
  · omega
end Go.Proofs.YtjjcepnadjociaaDoor.Lem
