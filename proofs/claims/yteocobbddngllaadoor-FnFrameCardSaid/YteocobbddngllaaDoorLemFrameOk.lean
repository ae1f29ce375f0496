/- Which segments are ok, of the program and of the reference: one plain function. -/
import Derived.Test.YteocobbddngllaaDoorLemIn
import Derived.Test.YteocobbddngllaaDoorLemStrs
import Derived.Test.YteocobbddngllaaDoorPx15
import Derived.Test.YteocobbddngllaaDoorPx18
namespace Go.Proofs.YteocobbddngllaaDoor.Lem
set_option linter.unusedVariables false
open Go Go.RowKit Go.Proofs.YteocobbddngllaaDoor.P Go.Proofs.YteocobbddngllaaDoorW.PrintWords Go.Proofs.YteocobbddngllaaDoorW.PrintLast Go.Proofs.YteocobbddngllaaDoorW.PrintMore
/-- From segment i on, so many words being ahead. -/
def okFrom (l : List ByteArray) : Nat → Nat → Int → Bool
  | 0, _, w => decide (1 ≤ (l.length : Int) ∧ (l.length : Int) ≤ 6) && decide (w ≤ 200)
  | d + 1, i, w => if ((rs l i).size : Int) % 8 = 0 then okFrom l d (i + 1) (w + ((rs l i).size : Int) / 8) else false
def frameOkV (l : List ByteArray) : Bool := okFrom l l.length 0 0
theorem specFrameOk_l0 (l : List ByteArray) (hl : l.length ≤ 1048576) (hs : ∀ x ∈ l, x.size ≤ 1048576) : ∀ (d k i : Nat) (w : Int), i + d = l.length → d < k → 0 ≤ w → w ≤ 131072 * i →
    spec_FrameOk.l0 k l w i = some (okFrom l d i w) := by
  intro d
  induction d with
  | zero =>
    intro k i w hi hk h0 h1
    obtain ⟨k, rfl⟩ : ∃ m, k = m + 1 := ⟨k - 1, by omega⟩
    simp only [spec_FrameOk.l0]
    rw [if_neg (by omega), l1In_f, Option.bind_some]
    unfold okFrom
    by_cases h : 1 ≤ (l.length : Int) ∧ (l.length : Int) ≤ 6
    · rw [if_pos (decide_eq_true h), decide_eq_true h]; simp
    · rw [if_neg (by simpa using h), decide_eq_false h]; simp
  | succ d ih =>
    intro k i w hi hk h0 h1
    obtain ⟨k, rfl⟩ : ∃ m, k = m + 1 := ⟨k - 1, by omega⟩
    simp only [spec_FrameOk.l0]
    have e : rdOf ByteArray.empty l (i : Int) = rs l i := rfl
    have hx : (rs l i).size ≤ 1048576 := by rw [rs_get l i (by omega)]; exact hs _ (List.getElem_mem _)
    rw [if_pos (by omega), if_pos (by omega), e]
    simp only [okFrom]
    by_cases h8 : ((rs l i).size : Int) % 8 = 0
    · rw [if_pos h8, if_pos h8, wrap64_id (n := ((rs l i).size : Int) / 8) (by omega) (by omega), wrap64_id (by omega) (by omega), wrap64_id (by omega) (by omega)]
      exact ih k (i + 1) _ (by omega) (by omega) (by omega) (by omega)
    · rw [if_neg h8, if_neg h8]
theorem specFrameOk_f (l : List ByteArray) (hl : l.length ≤ 1048576) (hs : ∀ x ∈ l, x.size ≤ 1048576) (k : Nat) (hk : l.length < k) : spec_FrameOk.f k l = some (frameOkV l) := by
  unfold spec_FrameOk.f frameOkV
  exact specFrameOk_l0 l hl hs l.length k 0 0 (by omega) hk (by omega) (by omega)
theorem implFrameOk_l0 (l : List ByteArray) (hl : l.length ≤ 1048576) (hs : ∀ x ∈ l, x.size ≤ 1048576) : ∀ (d k i : Nat) (w : Int), i + d = l.length → d < k → 0 ≤ w → w ≤ 131072 * i →
    impl_FrameOk.l0 k l w l (l.length : Int) i = some (okFrom l d i w) := by
  intro d
  induction d with
  | zero =>
    intro k i w hi hk h0 h1
    obtain ⟨k, rfl⟩ : ∃ m, k = m + 1 := ⟨k - 1, by omega⟩
    simp only [impl_FrameOk.l0]
    rw [if_neg (by omega), in_f, Option.bind_some]
    unfold okFrom
    by_cases h : 1 ≤ (l.length : Int) ∧ (l.length : Int) ≤ 6
    · rw [if_pos (decide_eq_true h), decide_eq_true h]; simp
    · rw [if_neg (by simpa using h), decide_eq_false h]; simp
  | succ d ih =>
    intro k i w hi hk h0 h1
    obtain ⟨k, rfl⟩ : ∃ m, k = m + 1 := ⟨k - 1, by omega⟩
    simp only [impl_FrameOk.l0]
    have e : rdOf ByteArray.empty l (i : Int) = rs l i := rfl
    have hx : (rs l i).size ≤ 1048576 := by rw [rs_get l i (by omega)]; exact hs _ (List.getElem_mem _)
    rw [if_pos (by omega), if_pos (by omega), if_pos (by omega), e]
    simp only [okFrom]
    by_cases h8 : ((rs l i).size : Int) % 8 = 0
    · rw [if_pos h8, if_pos h8, wrap64_id (n := ((rs l i).size : Int) / 8) (by omega) (by omega), wrap64_id (by omega) (by omega), wrap64_id (by omega) (by omega)]
      exact ih k (i + 1) _ (by omega) (by omega) (by omega) (by omega)
    · rw [if_neg h8, if_neg h8]
theorem implFrameOk_f (l : List ByteArray) (hl : l.length ≤ 1048576) (hs : ∀ x ∈ l, x.size ≤ 1048576) (k : Nat) (hk : l.length < k) : impl_FrameOk.f k l = some (frameOkV l) := by
  unfold impl_FrameOk.f frameOkV
  exact implFrameOk_l0 l hl hs l.length k 0 0 (by omega) hk (by omega) (by omega)
end Go.Proofs.YteocobbddngllaaDoor.Lem
