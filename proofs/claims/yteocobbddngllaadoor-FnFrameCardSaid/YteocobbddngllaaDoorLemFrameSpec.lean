/- What the reference's FramePut answers: the same plain frame. -/
import Derived.Test.YteocobbddngllaaDoorLemFramePut
import Derived.Test.YteocobbddngllaaDoorPx19
namespace Go.Proofs.YteocobbddngllaaDoor.Lem
set_option linter.unusedVariables false
open Go Go.RowKit Go.Proofs.YteocobbddngllaaDoor.P Go.Proofs.YteocobbddngllaaDoorW.PrintWords Go.Proofs.YteocobbddngllaaDoorW.PrintLast Go.Proofs.YteocobbddngllaaDoorW.PrintMore
theorem specPut_l1 (l : List ByteArray) (hl : l.length ≤ 6) (hs : sumSize l ≤ 1600) : ∀ (d k i : Nat) (x : ByteArray), i + d = l.length → d < k → x.size + sumSize (l.drop i) ≤ 10000 →
    spec_FramePut.l1 k l x i = some (putSegs (l.drop i) x) := by
  intro d
  induction d with
  | zero =>
    intro k i x hi hk hx
    obtain ⟨k, rfl⟩ : ∃ m, k = m + 1 := ⟨k - 1, by omega⟩
    simp only [spec_FramePut.l1]
    rw [if_neg (by omega), List.drop_eq_nil_of_le (by omega)]; rfl
  | succ d ih =>
    intro k i x hi hk hx
    obtain ⟨k, rfl⟩ : ∃ m, k = m + 1 := ⟨k - 1, by omega⟩
    simp only [spec_FramePut.l1]
    have e : rdOf ByteArray.empty l (i : Int) = rs l i := rfl
    rw [drop_rs l i (by omega), sumSize_cons] at hx
    rw [if_pos (by omega), if_pos (by omega), e, if_pos (by omega), wrap64_id (n := (i : Int) + 1) (by omega) (by omega)]
    have e2 : (i : Int) + 1 = ((i + 1 : Nat) : Int) := by omega
    rw [e2, ih k (i + 1) (x ++ rs l i) (by omega) (by omega) (by rw [ByteArray.size_append]; omega), drop_rs l i (by omega)]
    rfl
theorem specPut_j1 (l : List ByteArray) (hl : l.length ≤ 6) (hs : sumSize l ≤ 1600) (k : Nat) (x : ByteArray) (hk : 10 ≤ k) (hx : x.size ≤ 1000) : spec_FramePut.j1 k l x = some (putSegs l x) := by
  obtain ⟨k, rfl⟩ : ∃ m, k = m + 1 := ⟨k - 1, by omega⟩
  simp only [spec_FramePut.j1]
  have := specPut_l1 l hl hs l.length k 0 x (by omega) (by omega) (by rw [List.drop_zero]; omega)
  rw [List.drop_zero] at this
  exact this
theorem specPut_l0 (l : List ByteArray) (hl : l.length ≤ 6) (hs : sumSize l ≤ 1600) : ∀ (d k i : Nat) (x : ByteArray), i + d = l.length → d + 20 ≤ k → x.size + 4 * d ≤ 100 →
    spec_FramePut.l0 k l x i = some (putSegs l (pad8 (putSizes (l.drop i) x))) := by
  intro d
  induction d with
  | zero =>
    intro k i x hi hk hx
    obtain ⟨k, rfl⟩ : ∃ m, k = m + 1 := ⟨k - 1, by omega⟩
    simp only [spec_FramePut.l0]
    rw [if_neg (by omega), List.drop_eq_nil_of_le (by omega)]
    show _ = some (putSegs l (pad8 x))
    unfold pad8
    by_cases h8 : (x.size : Int) % 8 = 0
    · rw [if_pos h8, if_pos h8]
      exact specPut_j1 l hl hs k x (by omega) (by omega)
    · have hb := l1Bytes_f 0 4 (by omega) k (by omega)
      rw [if_neg h8, if_neg h8]
      have c4 : ((4 : Nat) : Int) = 4 := rfl
      rw [c4] at hb
      rw [hb, Option.bind_some]
      have hz : (strOfNums (leB 0 4)).size = 4 := le4_size 0
      rw [if_pos (by omega)]
      exact specPut_j1 l hl hs k _ (by omega) (by rw [ByteArray.size_append]; omega)
  | succ d ih =>
    intro k i x hi hk hx
    obtain ⟨k, rfl⟩ : ∃ m, k = m + 1 := ⟨k - 1, by omega⟩
    simp only [spec_FramePut.l0]
    have e : rdOf ByteArray.empty l (i : Int) = rs l i := rfl
    have hx1 : (rs l i).size ≤ 1600 := Nat.le_trans (size_le_sum _ (by rw [rs_get l i (by omega)]; exact List.getElem_mem _)) hs
    rw [if_pos (by omega), if_pos (by omega), e, wrap64_id (n := ((rs l i).size : Int) / 8) (by omega) (by omega)]
    have hb := l1Bytes_f (((rs l i).size : Int) / 8) 4 (by omega) k (by omega)
    have c4 : ((4 : Nat) : Int) = 4 := rfl
    rw [c4] at hb
    rw [hb, Option.bind_some]
    have hz : (strOfNums (leB (((rs l i).size : Int) / 8) 4)).size = 4 := le4_size _
    rw [if_pos (by omega), wrap64_id (n := (i : Int) + 1) (by omega) (by omega)]
    have e2 : (i : Int) + 1 = ((i + 1 : Nat) : Int) := by omega
    rw [e2, ih k (i + 1) _ (by omega) (by omega) (by rw [ByteArray.size_append]; omega), drop_rs l i (by omega)]
    rfl
theorem specFramePut_f (l : List ByteArray) (hl : l.length ≤ 1048576) (hs : ∀ x ∈ l, x.size ≤ 1048576) (k : Nat) (hk : l.length < k) (hk2 : 30 ≤ k) : spec_FramePut.f k l = some (if frameOkV l = true then frameV l else ⟨#[]⟩) := by
  unfold spec_FramePut.f
  rw [specFrameOk_f l hl hs k hk, Option.bind_some]
  by_cases h : frameOkV l = true
  · obtain ⟨h1, h2, h3⟩ := frameOk_facts h
    rw [if_pos h, if_pos h, wrap64_id (by omega) (by omega)]
    have hb := l1Bytes_f ((l.length : Int) - 1) 4 (by omega) k (by omega)
    have c4 : ((4 : Nat) : Int) = 4 := rfl
    rw [c4] at hb
    rw [hb, Option.bind_some]
    have := specPut_l0 l h1.2 h3 l.length k 0 (le4 ((l.length : Int) - 1)) (by omega) (by omega) (by rw [le4_size]; omega)
    rw [List.drop_zero] at this
    exact this
  · rw [if_neg h, if_neg h]
end Go.Proofs.YteocobbddngllaaDoor.Lem
