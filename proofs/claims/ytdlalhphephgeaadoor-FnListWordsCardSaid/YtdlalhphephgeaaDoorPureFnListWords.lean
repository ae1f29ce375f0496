import Derived.Test.YtdlalhphephgeaaDoorLemListWords
import Derived.Test.YtdlalhphephgeaaDoorLemOne
import Derived.Test.YtdlalhphephgeaaDoorPx5
import Derived.Test.YtdlalhphephgeaaDoorPx6
namespace Go.Proofs.YtdlalhphephgeaaDoor.Pure
set_option linter.unusedVariables false
open Go Go.RowKit Go.Proofs.YtdlalhphephgeaaDoor Go.Proofs.YtdlalhphephgeaaDoor.P Go.Proofs.YtdlalhphephgeaaDoor.Lem Go.Proofs.YtdlalhphephgeaaDoorW.PrintWords Go.Proofs.YtdlalhphephgeaaDoorW.PrintLast
theorem draw_f (k : Nat) (l : List Int) (hk : 1 ≤ k) (h : ∀ x ∈ l, (Lit.int .u8 x).wf = true) :
    ∃ a b, spec_DrawListWords.f k l = some (a, b) ∧ -1 ≤ a ∧ a ≤ 7 ∧ -1 ≤ b ∧ b ≤ 1000001 := by
  obtain ⟨by_, e0, hb⟩ := open_f l h
  obtain ⟨v, e1, hv0, hv1⟩ := pick_f k by_ 0 9 hk hb (by omega) (by omega)
  obtain ⟨u, hu, e2⟩ := one_f k by_ 1 ([0, 1, 8, 9, 64, 65, 1000, 1000001, (-1)] : List Int) (by simp) (by simp) hk hb (by omega) (by omega)
  have hv := hv1 (by omega)
  refine ⟨v - 1, u, ?_, by omega, by omega, ?_, ?_⟩
  · unfold spec_DrawListWords.f
    simp only [e0, Option.bind_some, e1, Int.zero_add, e2]
    rw [wrap64_id (by omega) (by omega)]
  · simp at hu; omega
  · simp at hu; omega
theorem FnListWords : laws_FnListWords.Pure := by
  intro l0 hm hz hw
  refine ⟨2, ?_⟩
  unfold laws_FnListWords.f
  by_cases hbig : (l0.length : Int) > 1048576
  · rw [if_pos hbig]
  rw [if_neg hbig]
  obtain ⟨a, b, e, ha0, ha1, hb0, hb1⟩ := draw_f 2 l0 (by omega) hw
  rw [e]
  simp only [Option.bind_some, impl_words, spec_words]
  rw [if_pos trivial]
  have hr := words_range a b
  by_cases hneg : words a b < 0
  · rw [if_pos hneg]
    simp only [laws_FnListWords.j0, spec_words, Option.bind_some]
    simp
  rw [if_neg hneg]
  simp only [laws_FnListWords.j0, spec_words, impl_words, Option.bind_some, List.length_cons, List.length_nil]
  by_cases hbb : b ≥ 1000000
  · rw [if_pos (by simpa using hbb)]
    simp
  rw [if_neg (by simpa using hbb)]
  have hin : 0 ≤ a ∧ a ≤ 6 ∧ 0 ≤ b ∧ b ≤ 1000000 := by
    refine Decidable.byContradiction fun hc => hneg ?_
    unfold words
    rw [if_neg hc]; decide
  have hw0 : words a b = (bitsOf a * b + 63) / 64 := by unfold words; rw [if_pos hin]
  have hw1 : words a (b + 1) = (bitsOf a * (b + 1) + 63) / 64 := by unfold words; rw [if_pos (by omega)]
  have hm0 := mul_ok a b ⟨hin.2.2.1, hin.2.2.2⟩
  have hbt := bitsOf_range a
  have e3 : rd ([0, 1, 8, 16, 32, 64, 64] : List Int) a = bitsOf a := rfl
  rw [if_pos hin.1, if_pos (by omega), e3, wrap64_id (n := b + 1) (by omega) (by omega), hw1, hw0]
  rw [Int.mul_add, Int.mul_one]
  generalize bitsOf a * b = m at *
  generalize bitsOf a = c at *
  rw [hw0] at hr hneg
  rw [wrap64_id (n := m) (by omega) (by omega), wrap64_id (n := 64 * ((m + 63) / 64)) (by omega) (by omega), wrap64_id (n := (m + 63) / 64 - 1) (by omega) (by omega), wrap64_id (n := 64 * ((m + 63) / 64 - 1)) (by omega) (by omega)]
  rw [if_pos (by omega), if_pos (by omega)]
  congr 1
  rw [decide_eq_true_eq]
  omega
end Go.Proofs.YtdlalhphephgeaaDoor.Pure
