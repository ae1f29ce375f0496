/- Whether a text is of noughts alone: the reference's function. -/
import Derived.Test.YteocobbddngllaaDoorLemA
import Derived.Test.YteocobbddngllaaDoorPx1
namespace Go.Proofs.YteocobbddngllaaDoor.Lem
set_option linter.unusedVariables false
open Go Go.RowKit Go.Proofs.YteocobbddngllaaDoor.P Go.Proofs.YteocobbddngllaaDoorW.PrintWords Go.Proofs.YteocobbddngllaaDoorW.PrintLast Go.Proofs.YteocobbddngllaaDoorW.PrintMore
theorem byte_at (t : List UInt8) (i : Nat) (h : i < t.length) : bt (B t) (i : Int) = ((t[i]).toNat : Int) ∧ t.drop i = t[i] :: t.drop (i + 1) := by
  refine ⟨?_, List.drop_eq_getElem_cons h⟩
  rw [B_bt, List.getD_eq_getElem?_getD, List.getElem?_eq_getElem h]; rfl
theorem zero_iff (c : UInt8) : ((c.toNat : Int) = 0) ↔ c = 0 := tag0 c
theorem l1Zero_l0 (wd : List UInt8) (hl : wd.length ≤ 1000000) : ∀ (d k i : Nat), i + d = wd.length → d < k → spec_l1Zero.l0 k (B wd) i = some ((wd.drop i).all fun c => c == 0) := by
  intro d
  induction d with
  | zero =>
    intro k i hi hk
    obtain ⟨k, rfl⟩ : ∃ m, k = m + 1 := ⟨k - 1, by omega⟩
    simp only [spec_l1Zero.l0]
    rw [B_size, if_neg (by omega), List.drop_eq_nil_of_le (by omega)]; rfl
  | succ d ih =>
    intro k i hi hk
    obtain ⟨k, rfl⟩ : ∃ m, k = m + 1 := ⟨k - 1, by omega⟩
    simp only [spec_l1Zero.l0]
    obtain ⟨hb, hd⟩ := byte_at wd i (by omega)
    have e2 : wrap64 ((i : Int) + 1) = ((i + 1 : Nat) : Int) := by rw [wrap64_id (by omega) (by omega)]; omega
    rw [B_size, if_pos (by omega), if_pos (by omega), hb, e2, hd, List.all_cons]
    by_cases hc : wd[i] = 0
    · rw [if_pos ((zero_iff _).2 hc), ih k (i + 1) (by omega) (by omega), hc]; rfl
    · rw [if_neg (fun h => hc ((zero_iff _).1 h))]
      have : (wd[i] == 0) = false := by rw [beq_eq_false_iff_ne]; exact hc
      rw [this]; rfl
theorem l1Zero_f (wd : List UInt8) (hl : wd.length ≤ 1000000) (k : Nat) (hk : wd.length < k) : spec_l1Zero.f k (B wd) = some (wd.all fun c => c == 0) := by
  unfold spec_l1Zero.f
  have := l1Zero_l0 wd hl wd.length k 0 (by omega) hk
  rw [List.drop_zero] at this
  exact this
end Go.Proofs.YteocobbddngllaaDoor.Lem
