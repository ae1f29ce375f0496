/- Frames, of the program and the reference: the laws' own parts. -/
import Derived.Test.YteocobbddngllaaDoorLemFrameRead
import Derived.Test.YteocobbddngllaaDoorLemFrameSpec
import Derived.Test.YteocobbddngllaaDoorStubFramePut
import Derived.Test.YteocobbddngllaaDoorPx23
namespace Go.Proofs.YteocobbddngllaaDoor.Lem
set_option linter.unusedVariables false
open Go Go.RowKit Go.Proofs.YteocobbddngllaaDoor Go.Proofs.YteocobbddngllaaDoor.P Go.Proofs.YteocobbddngllaaDoorW.PrintWords Go.Proofs.YteocobbddngllaaDoorW.PrintLast Go.Proofs.YteocobbddngllaaDoorW.PrintMore
/-- A frame of the segments, or none. -/
def frameW (l : List ByteArray) : ByteArray := if frameOkV l = true then frameV l else ⟨#[]⟩
theorem implFrameW_f (l : List ByteArray) (hl : l.length ≤ 1048576) (hs : ∀ x ∈ l, x.size ≤ 1048576) : impl_FramePut.f l = some (frameW l) := by
  unfold impl_FramePut.f
  rw [if_pos ⟨by omega, fun x hx => by have := hs x hx; omega⟩]; rfl
theorem view (l : List ByteArray) : (l.map fun s => s.data.toList).map B = l := by
  rw [List.map_map]
  conv => rhs; rw [← List.map_id l]
  apply List.map_congr_left
  intro s _
  exact B_of s
theorem sum_flat (l : List (List UInt8)) : sumSize (l.map B) = l.flatten.length := by
  induction l with
  | nil => rfl
  | cons s l ih => rw [List.map_cons, sumSize_cons, ih, B_size, List.flatten_cons, List.length_append]
theorem okL_of (l : List ByteArray) (h : frameOkV l = true) : ∃ yl : List (List UInt8), l = yl.map B ∧ OkL yl ∧ frameV l = B (frL yl) := by
  refine ⟨l.map fun s => s.data.toList, (view l).symm, ?_, ?_⟩
  · obtain ⟨⟨h1, h6⟩, h8, hs⟩ := frameOk_facts h
    refine ⟨by rw [List.length_map]; exact h1, by rw [List.length_map]; exact h6, fun s hs' => ?_, ?_⟩
    · obtain ⟨x, hx, rfl⟩ := List.mem_map.1 hs'
      rw [data_length]; exact h8 x hx
    · rw [← sum_flat, view]; exact hs
  · rw [← frameV_L, view]
theorem okFrom_of (l : List ByteArray) (hl : 1 ≤ l.length ∧ l.length ≤ 6) (h8 : ∀ x ∈ l, x.size % 8 = 0) : ∀ (d i : Nat) (w : Int), i + d = l.length → 8 * w + (sumSize (l.drop i) : Int) ≤ 1600 → okFrom l d i w = true := by
  intro d
  induction d with
  | zero =>
    intro i w hi hw
    unfold okFrom
    rw [List.drop_eq_nil_of_le (by omega)] at hw
    have h0 : sumSize [] = 0 := rfl
    rw [h0] at hw
    rw [decide_eq_true (by omega), decide_eq_true (by omega)]; rfl
  | succ d ih =>
    intro i w hi hw
    unfold okFrom
    rw [drop_rs l i (by omega), sumSize_cons] at hw
    have hx := h8 (rs l i) (by rw [rs_get l i (by omega)]; exact List.getElem_mem _)
    rw [if_pos (by omega)]
    exact ih (i + 1) _ (by omega) (by omega)
theorem frameOk_of (yl : List (List UInt8)) (h : OkL yl) : frameOkV (yl.map B) = true := by
  unfold frameOkV
  refine okFrom_of _ ⟨by rw [List.length_map]; exact h.one, by rw [List.length_map]; exact h.six⟩ (fun x hx => ?_) _ 0 0 (by omega) ?_
  · obtain ⟨s, hs, rfl⟩ := List.mem_map.1 hx
    rw [B_size]; exact h.words s hs
  · rw [List.drop_zero, sum_flat]; have := h.all; omega
/-- What was put is read back, whatever stands behind. -/
theorem frame_get (l : List ByteArray) (h : frameOkV l = true) (x : List UInt8) : frameG ((frameV l).data.toList ++ x) = (l, ((frameV l).size : Int)) := by
  obtain ⟨yl, hl, ho, hf⟩ := okL_of l h
  rw [hf, B_data, frameG_put yl ho x, B_size, ← hl]
theorem frame_back (t : List UInt8) (y : List ByteArray) (n : Int) (h : frameG t = (y, n)) (hn : 1 ≤ n) : frameOkV y = true ∧ n ≤ t.length ∧ frameV y = B (t.take n.toNat) := by
  obtain ⟨yl, rfl, ho, rfl, hle, ht⟩ := frameG_back t y n h hn
  refine ⟨frameOk_of yl ho, by omega, ?_⟩
  rw [frameV_L, Int.toNat_natCast, ← ht]
theorem frame_part (l : List ByteArray) (h : frameOkV l = true) (p : Nat) (hp : p < (frameV l).size) : (frameG ((frameV l).data.toList.take p)).2 = 0 := by
  obtain ⟨yl, hl, ho, hf⟩ := okL_of l h
  rw [hf, B_data]
  rw [hf, B_size] at hp
  exact frameG_part yl ho p hp
theorem frame_words (l : List ByteArray) (h : frameOkV l = true) : (frameV l).size % 8 = 0 ∧ 8 ≤ (frameV l).size ∧ (frameV l).size ≤ 2000 := by
  obtain ⟨yl, hl, ho, hf⟩ := okL_of l h
  have hw : ∀ l : List (List UInt8), (∀ s ∈ l, s.length % 8 = 0) → l.flatten.length % 8 = 0 := by
    intro l
    induction l with
    | nil => intro _; rfl
    | cons s l ih =>
      intro h
      have h1 := h s (List.mem_cons_self ..)
      have h2 := ih (fun x hx => h x (List.mem_cons_of_mem _ hx))
      rw [List.flatten_cons, List.length_append]; omega
  have h3 := hw yl ho.words
  have h4 := frL_length yl
  have h6 := ho.six
  have h7 := ho.one
  have h5 : hd8 yl.length % 8 = 0 ∧ 8 ≤ hd8 yl.length ∧ hd8 yl.length ≤ 40 := by unfold hd8; omega
  have h8 := ho.all
  rw [hf, B_size]; omega
theorem texts_same : ∀ (d k i : Nat) (l : List ByteArray), l.length ≤ 1000000 → i + d = l.length → d < k → laws_qnTexts.l0 k l l i = some true := by
  intro d
  induction d with
  | zero =>
    intro k i l _ hi hk
    obtain ⟨k, rfl⟩ : ∃ m, k = m + 1 := ⟨k - 1, by omega⟩
    simp only [laws_qnTexts.l0]
    rw [if_neg (by omega)]
  | succ d ih =>
    intro k i l hl hi hk
    obtain ⟨k, rfl⟩ : ∃ m, k = m + 1 := ⟨k - 1, by omega⟩
    simp only [laws_qnTexts.l0]
    rw [if_pos (by omega), if_pos (by omega), if_pos (by omega), if_pos trivial, wrap64_id (by omega) (by omega)]
    exact ih k (i + 1) l hl (by omega) (by omega)
theorem texts_f (k : Nat) (l : List ByteArray) (hl : l.length ≤ 1000000) (hk : l.length < k) : laws_qnTexts.f k l l = some true := by
  unfold laws_qnTexts.f
  rw [if_pos rfl]
  exact texts_same l.length k 0 l hl (by omega) hk
theorem frameG_len (t : List UInt8) : (frameG t).1.length ≤ 6 := by
  unfold frameG
  split
  · exact Nat.zero_le _
  · split
    · exact Nat.zero_le _
    · split
      · exact Nat.zero_le _
      · split
        · exact Nat.zero_le _
        · split
          · exact Nat.zero_le _
          · show (List.map B _).length ≤ 6
            rw [List.length_map, cutL_length, szs_length]; omega
end Go.Proofs.YteocobbddngllaaDoor.Lem
