/- How many words a list takes: the two packages answer alike. -/
import Derived.Test.YtdlalhphephgeaaDoorLemBits
import Derived.Test.YtdlalhphephgeaaDoorStubSizes
import Derived.Test.YtdlalhphephgeaaDoorPx1
import Derived.Test.YtdlalhphephgeaaDoorPx2
namespace Go.Proofs.YtdlalhphephgeaaDoor.Lem
set_option linter.unusedVariables false
open Go Go.RowKit Go.Proofs.YtdlalhphephgeaaDoor Go.Proofs.YtdlalhphephgeaaDoor.P Go.Proofs.YtdlalhphephgeaaDoorW.PrintWords Go.Proofs.YtdlalhphephgeaaDoorW.PrintLast Go.Proofs.YtdlalhphephgeaaDoorW.PrintMore
/-- The number of words. -/
def words (a0 a1 : Int) : Int := if 0 ≤ a0 ∧ a0 ≤ 6 ∧ 0 ≤ a1 ∧ a1 ≤ 1000000 then (bitsOf a0 * a1 + 63) / 64 else -1
theorem in_f (a b c : Int) : spec_l1In.f a b c = some (decide (b ≤ a ∧ a ≤ c)) := by
  unfold spec_l1In.f
  by_cases h : a ≥ b
  · rw [if_pos h]; congr 1; rw [decide_eq_decide]; omega
  · rw [if_neg h]; congr 1; symm; rw [decide_eq_false_iff_not]; omega
theorem iin_f (a b c : Int) : impl_in.f a b c = some (decide (b ≤ a ∧ a ≤ c)) := by
  unfold impl_in.f
  by_cases h : a ≥ b
  · rw [if_pos h]; congr 1; rw [decide_eq_decide]; omega
  · rw [if_neg h]; congr 1; symm; rw [decide_eq_false_iff_not]; omega
theorem bits_f (a : Int) (h : 0 ≤ a ∧ a ≤ 6) : spec_l2Bits.f a = some (bitsOf a) := by
  unfold spec_l2Bits.f
  simp only [Option.bind_some, List.length_cons, List.length_nil]
  rw [if_pos h.1, if_pos (by omega)]
  rfl
theorem mul_ok (a0 a1 : Int) (h : 0 ≤ a1 ∧ a1 ≤ 1000000) : 0 ≤ bitsOf a0 * a1 ∧ bitsOf a0 * a1 ≤ 64 * 1000000 :=
  ⟨Int.mul_nonneg (bitsOf_range a0).1 h.1, Int.mul_le_mul (bitsOf_range a0).2 h.2 h.1 (by decide)⟩
theorem spec_words (a0 a1 : Int) : spec_ListWords.f a0 a1 = some (words a0 a1) := by
  unfold spec_ListWords.f words
  rw [in_f]
  simp only [Option.bind_some]
  by_cases h0 : 0 ≤ a0 ∧ a0 ≤ 6
  · rw [if_pos (by simpa using h0), in_f]
    simp only [Option.bind_some]
    by_cases h1 : 0 ≤ a1 ∧ a1 ≤ 1000000
    · have hm := mul_ok a0 a1 h1
      rw [if_pos (by simpa using h1), bits_f a0 h0, if_pos ⟨h0.1, h0.2, h1.1, h1.2⟩]
      simp only [Option.bind_some]
      generalize bitsOf a0 * a1 = m at *
      rw [wrap64_id (n := m) (by omega) (by omega), wrap64_id (n := m + 63) (by omega) (by omega), Int.tdiv_eq_ediv_of_nonneg (by omega), wrap64_id (by omega) (by omega)]
    · rw [if_neg (by simpa using h1), if_neg (by omega)]
  · rw [if_neg (by simpa using h0), if_neg (by omega)]
theorem impl_words (a0 a1 : Int) : impl_ListWords.f a0 a1 = some (words a0 a1) := by
  unfold impl_ListWords.f words
  rw [iin_f]
  simp only [Option.bind_some]
  by_cases h0 : 0 ≤ a0 ∧ a0 ≤ 6
  · rw [if_pos (by simpa using h0), iin_f]
    simp only [Option.bind_some]
    by_cases h1 : 0 ≤ a1 ∧ a1 ≤ 1000000
    · rw [if_pos (by simpa using h1), if_pos ⟨h0.1, h0.2, h1.1, h1.2⟩]
      unfold impl_listWords.f
      rw [if_pos ⟨h0.1, h0.2, h1.1, h1.2⟩]
      try rfl
    · rw [if_neg (by simpa using h1), if_neg (by omega)]
  · rw [if_neg (by simpa using h0), if_neg (by omega)]
theorem words_range (a0 a1 : Int) : -1 ≤ words a0 a1 ∧ words a0 a1 ≤ 1000000 := by
  unfold words
  split
  · rename_i h
    have hm := mul_ok a0 a1 ⟨h.2.2.1, h.2.2.2⟩
    generalize bitsOf a0 * a1 = m at *
    omega
  · omega
end Go.Proofs.YtdlalhphephgeaaDoor.Lem
