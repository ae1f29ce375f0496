/- The two layouts answer alike; what the laws' own helpers answer of them. -/
import Derived.Test.YtjjcepnadjociaaDoorLemDrawFields
import Derived.Test.YtjjcepnadjociaaDoorLemFieldsOk
import Derived.Test.YtjjcepnadjociaaDoorStubLayoutBits
import Derived.Test.YtjjcepnadjociaaDoorStubLay
import Derived.Test.YtjjcepnadjociaaDoorLemLay
import Derived.Test.YtjjcepnadjociaaDoorPx10
import Derived.Test.YtjjcepnadjociaaDoorPx13
import Derived.Test.YtjjcepnadjociaaDoorPx19
import Derived.Test.YtjjcepnadjociaaDoorPx20
namespace Go.Proofs.YtjjcepnadjociaaDoor.Lem
set_option linter.unusedVariables false
set_option linter.unusedSimpArgs false
open Go Go.RowKit Go.Proofs.YtjjcepnadjociaaDoor Go.Proofs.YtjjcepnadjociaaDoor.P Go.Proofs.YtjjcepnadjociaaDoorW.PrintWords Go.Proofs.YtjjcepnadjociaaDoorW.PrintLast Go.Proofs.YtjjcepnadjociaaDoorW.PrintMore
abbrev Slots := List S34
/-- The layout's slots. -/
def slotsOf (l : List S27) : Slots := (layS l).1.map S34.mk
theorem slotsOf_length (l : List S27) : (slotsOf l).length = l.length := by unfold slotsOf layS; rw [List.length_map, layP_length, List.length_map]
theorem okF_f (l : List S27) : impl_FieldsOk.f l = some (okF l) := rfl
theorem specOk_f (l : List S27) (hl : l.length ≤ 1048576) (k : Nat) (hk : l.length < k) : spec_FieldsOk.f k l = some (okF l) := spec_f l hl k hk
theorem layout_f {l : List S27} (h : okF l = true) : impl_layout.f l = some ((layS l).2.words, (layS l).2.ptrs, slotsOf l, (layS l).2.tag) := by
  unfold impl_layout.f
  rw [if_pos (okF_good h)]
  rfl
theorem implOf_ok {l : List S27} (h : okF l = true) : impl_LayoutOf.f l = some ((layS l).2.words, (layS l).2.ptrs, slotsOf l, (layS l).2.tag, true) := by
  unfold impl_LayoutOf.f
  simp only [okF_f, Option.bind_some, layout_f h, h, if_true]
theorem implOf_no {l : List S27} (h : okF l = false) : impl_LayoutOf.f l = some (0, 0, [], 0, false) := by
  unfold impl_LayoutOf.f
  simp [okF_f, h]
theorem specOf_f (l : List S27) (hl : l.length ≤ 1048576) (k : Nat) (hk : l.length < k) : spec_LayoutOf.f k l = impl_LayoutOf.f l := by
  unfold spec_LayoutOf.f impl_LayoutOf.f
  rw [specOk_f l hl k hk, okF_f]
  rfl
theorem drawOf_f (l : List Int) (h : ∀ x ∈ l, (Lit.int .u8 x).wf = true) (k : Nat) (hk : 20 ≤ k) : ∃ t, spec_DrawLayoutOf.f k l = some t ∧ t.length ≤ 13 := by
  obtain ⟨b, hb, hB⟩ := open_f l h
  obtain ⟨t, q, e, a, _, _⟩ := anyFields_f hB k hk
  refine ⟨t, ?_, a⟩
  unfold spec_DrawLayoutOf.f
  simp only [hb, Option.bind_some, e]
theorem qn_l0 (a b : Int) (xs : Slots) (c : Int) (hl : xs.length ≤ 1048576) : ∀ (n i k : Nat), i + n = xs.length → n < k → laws_qnLayout.l0 k (i : Int) a b xs c a b xs c = some true := by
  intro n
  induction n with
  | zero =>
    intro i k hi hk
    obtain ⟨k, rfl⟩ : ∃ m, k = m + 1 := ⟨k - 1, by omega⟩
    simp only [laws_qnLayout.l0]
    rw [if_neg (by omega)]
  | succ n ih =>
    intro i k hi hk
    obtain ⟨k, rfl⟩ : ∃ m, k = m + 1 := ⟨k - 1, by omega⟩
    simp only [laws_qnLayout.l0]
    rw [if_pos (by omega), if_pos (by omega), if_pos (by omega), if_neg (by simp), wrap64_id (n := (i : Int) + 1) (by omega) (by omega)]
    exact ih (i + 1) k (by omega) (by omega)
theorem qn_f (a b : Int) (xs : Slots) (c : Int) (hl : xs.length ≤ 1048576) (k : Nat) (hk : xs.length + 1 < k) : laws_qnLayout.f k a b xs c a b xs c = some true := by
  obtain ⟨k, rfl⟩ : ∃ m, k = m + 1 := ⟨k - 1, by omega⟩
  unfold laws_qnLayout.f
  rw [if_pos rfl, if_pos rfl, if_pos rfl]
  simp only [laws_qnLayout.j0]
  rw [if_neg (by simp)]
  exact qn_l0 a b xs c hl xs.length 0 k (by omega) (by omega)
theorem rdS (xs : Slots) (i : Nat) (h : i < xs.length) : rd_T34 xs (i : Int) = xs[i] := by
  unfold rd_T34
  rw [Int.toNat_natCast, List.getD_eq_getElem?_getD, List.getElem?_eq_getElem h, Option.getD_some]
theorem specBits_f (l : List S27) (hl : l.length ≤ 1048576) (a : Int) (k : Nat) (hk : l.length + 1 < k) : spec_LayoutBits.f k l a = impl_LayoutBits.f l a := by
  obtain ⟨k, rfl⟩ : ∃ m, k = m + 1 := ⟨k - 1, by omega⟩
  unfold spec_LayoutBits.f impl_LayoutBits.f
  rw [specOk_f l hl _ (by omega), Option.bind_some]
  by_cases hok : okF l = true
  · rw [if_pos hok, wrap64_id (n := (l.length : Int) - 1) (by omega) (by omega), in_f, Option.bind_some]
    by_cases hr : 0 ≤ a ∧ a ≤ (l.length : Int) - 1
    · rw [if_pos (by simpa using hr), if_pos hr.1, if_pos (by omega)]
      obtain ⟨i, rfl⟩ : ∃ i : Nat, a = i := ⟨a.toNat, by omega⟩
      have hlt : i < l.length := by omega
      have hG := okF_good hok
      have hs := sizeAt_good hG i hlt
      simp only [spec_LayoutBits.j0]
      show (if (sizeAt l i == 6) = true then some ((0 : Int), (0 : Int)) else _) = _
      by_cases h6 : sizeAt l i = 6
      · rw [if_pos (beq_iff_eq.mpr h6), if_neg (fun h => h.2.2.2 h6)]
      · obtain ⟨q1, q2, q3, q4, q5, q6, q7⟩ := slot_range2 hG i hlt h6
        rw [if_neg (fun h => h6 (beq_iff_eq.mp h)), if_pos hr.1, if_pos (by omega), if_pos ⟨hok, hr.1, hr.2, h6⟩]
        have e1 : spec_l2Bits.f (rd_T27 l (i : Int)).f0 = some (bitsOf (sizeAt l i)) := bits_f _ ⟨by have := hs.1; show 0 ≤ sizeAt l i; omega, hs.2⟩
        have e2 : spec_l7Layout.f l = some ((layS l).2.words, (layS l).2.ptrs, slotsOf l, (layS l).2.tag) := layout_f hok
        rw [e1, e2]
        simp only [Option.bind_some]
        rw [if_pos (by rw [slotsOf_length]; omega)]
        have e3 : (rd_T34 (slotsOf l) (i : Int)).f0 = slotAt l i := rfl
        rw [e3, wrap64_id (n := slotAt l i * bitsOf (sizeAt l i)) (by omega) (by omega), wrap64_id (by omega) (by omega)]
    · rw [if_neg (by simpa using hr)]
      simp only [spec_LayoutBits.j0, if_true]
      rw [if_neg (fun h => hr ⟨h.2.1, h.2.2.1⟩)]
  · rw [if_neg hok]
    simp only [spec_LayoutBits.j0, if_true]
    rw [if_neg (fun h => hok h.1)]
end Go.Proofs.YtjjcepnadjociaaDoor.Lem
