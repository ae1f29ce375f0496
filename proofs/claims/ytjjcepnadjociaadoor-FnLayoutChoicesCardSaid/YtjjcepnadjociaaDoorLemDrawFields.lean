/- What the drawing of fields answers: always a short list. -/
import Derived.Test.YtjjcepnadjociaaDoorLemDraw
import Derived.Test.YtjjcepnadjociaaDoorPx3
import Derived.Test.YtjjcepnadjociaaDoorPx4
import Derived.Test.YtjjcepnadjociaaDoorPx5
namespace Go.Proofs.YtjjcepnadjociaaDoor.Lem
set_option linter.unusedVariables false
open Go Go.RowKit Go.Proofs.YtjjcepnadjociaaDoor.P Go.Proofs.YtjjcepnadjociaaDoorW.PrintWords Go.Proofs.YtjjcepnadjociaaDoorW.PrintLast Go.Proofs.YtjjcepnadjociaaDoorW.PrintMore
theorem one_f (k : Nat) (b : List Int) (p : Int) (l : List Int) (hl : l ≠ []) (hs : l.length ≤ 1000) (hk : 1 ≤ k) (hb : Bytes b) (hp : 0 ≤ p) (hP : p ≤ 1000000) :
    ∃ v, spec_l1Rd_one.f k b p l = some (v, p + 1) ∧ v ∈ l := by
  have hn : 0 < l.length := List.length_pos_iff.2 hl
  obtain ⟨v, hv, h0, h1⟩ := pick_f k b p (l.length : Int) hk hb hp hP
  unfold spec_l1Rd_one.f
  rw [hv]
  simp only [Option.bind_some]
  have hv1 := h1 (by omega)
  rw [if_pos h0, if_pos hv1]
  refine ⟨_, rfl, ?_⟩
  unfold rd
  rw [List.getD_eq_getElem?_getD, List.getElem?_eq_getElem (by omega), Option.getD_some]
  exact List.getElem_mem _
theorem fields_l0 {b : List Int} (hb : Bytes b) : ∀ (n k : Nat) (xs : List S27) (p : Int), n < k → n ≤ 10 → xs.length + n ≤ 10 → 0 ≤ p → p + 4 * n ≤ 1000 →
    ∃ t q, spec_l13Fields.l0 k xs (n : Int) b p = some (t, q) ∧ t.length ≤ 10 ∧ p ≤ q ∧ q ≤ p + 4 * n := by
  intro n
  induction n with
  | zero =>
    intro k xs p hk _ hx hp hP
    obtain ⟨k, rfl⟩ : ∃ m, k = m + 1 := ⟨k - 1, by omega⟩
    simp only [spec_l13Fields.l0]
    rw [if_neg (by omega)]
    exact ⟨_, _, rfl, by omega, by omega, by omega⟩
  | succ n ih =>
    intro k xs p hk hn hx hp hP
    obtain ⟨k, rfl⟩ : ∃ m, k = m + 1 := ⟨k - 1, by omega⟩
    simp only [spec_l13Fields.l0]
    rw [if_pos (by omega)]
    obtain ⟨v1, e1, _, _⟩ := pick_f k b p 6 (by omega) hb hp (by omega)
    obtain ⟨v2, e2, _, _⟩ := pick_f k b (p + 1) 3 (by omega) hb (by omega) (by omega)
    obtain ⟨v3, e3, _, _⟩ := pick_f k b (p + 1 + 1) 3 (by omega) hb (by omega) (by omega)
    obtain ⟨v4, e4, _, _⟩ := pick_f k b (p + 1 + 1 + 1) 2 (by omega) hb (by omega) (by omega)
    have ew : wrap64 (((n + 1 : Nat) : Int) - 1) = (n : Int) := by rw [wrap64_id (by omega) (by omega)]; omega
    simp only [e1, e2, e3, e4, Option.bind_some, ew]
    have step : ∀ (f : S27) (q : Int), p + 2 ≤ q → q ≤ p + 4 → ∃ t q', spec_l13Fields.l0 k (xs ++ [f]) (n : Int) b q = some (t, q') ∧ t.length ≤ 10 ∧ p ≤ q' ∧ q' ≤ p + 4 * ((n + 1 : Nat) : Int) := fun f q h1 h2 => by
      obtain ⟨t, q', e, a, b', c⟩ := ih k (xs ++ [f]) q (by omega) (by omega) (by rw [List.length_append, List.length_singleton]; omega) (by omega) (by omega)
      exact ⟨t, q', e, a, by omega, by omega⟩
    have hlen : xs.length < 5864062014805 := by omega
    by_cases h6 : wrap64 (1 + v1) = 6
    · rw [if_pos h6, if_pos hlen]
      exact step _ _ (by omega) (by omega)
    · rw [if_neg h6]
      by_cases h0 : v3 = 0
      · rw [if_pos h0, if_pos hlen]
        exact step _ _ (by omega) (by omega)
      · rw [if_neg h0, if_pos hlen]
        exact step _ _ (by omega) (by omega)
theorem any_l0 {b : List Int} (hb : Bytes b) : ∀ (n k : Nat) (xs : List S27) (p : Int), n + 1 < k → xs.length ≤ 13 → 13 - xs.length ≤ n → n ≤ 13 → 0 ≤ p → p + 2 * n ≤ 1000 →
    ∃ t q, spec_l13AnyFields.l0 k xs b p = some (t, q) ∧ t.length ≤ 13 ∧ 0 ≤ q ∧ q ≤ p + 2 * n + 1 := by
  intro n
  induction n with
  | zero =>
    intro k xs p hk hx hn _ hp hP
    obtain ⟨k, rfl⟩ : ∃ m, k = m + 1 := ⟨k - 1, by omega⟩
    simp only [spec_l13AnyFields.l0]
    obtain ⟨v1, e1, h1, h2⟩ := pick_f k b p 2 (by omega) hb hp (by omega)
    have h3 := h2 (by omega)
    simp only [e1, Option.bind_some]
    rw [wrap64_id (n := 12 + v1) (by omega) (by omega), if_neg (by omega)]
    exact ⟨_, _, rfl, hx, by omega, by omega⟩
  | succ n ih =>
    intro k xs p hk hx hn _ hp hP
    obtain ⟨k, rfl⟩ : ∃ m, k = m + 1 := ⟨k - 1, by omega⟩
    simp only [spec_l13AnyFields.l0]
    obtain ⟨v1, e1, h1, h2⟩ := pick_f k b p 2 (by omega) hb hp (by omega)
    have h3 := h2 (by omega)
    simp only [e1, Option.bind_some]
    rw [wrap64_id (n := 12 + v1) (by omega) (by omega)]
    by_cases hlt : (xs.length : Int) < 12 + v1
    · obtain ⟨v2, e2, _, _⟩ := pick_f k b (p + 1) 6 (by omega) hb (by omega) (by omega)
      rw [if_pos hlt]
      simp only [e2, Option.bind_some]
      rw [if_pos (by omega)]
      obtain ⟨t, q, e, a, b', c⟩ := ih k (xs ++ [⟨wrap64 (1 + v2), false, 0⟩]) (p + 1 + 1) (by omega) (by rw [List.length_append, List.length_singleton]; omega) (by rw [List.length_append, List.length_singleton]; omega) (by omega) (by omega) (by omega)
      exact ⟨t, q, e, a, b', by omega⟩
    · rw [if_neg hlt]
      exact ⟨_, _, rfl, hx, by omega, by omega⟩
theorem anyFields_f {b : List Int} (hb : Bytes b) (k : Nat) (hk : 20 ≤ k) : ∃ t q, spec_l13AnyFields.f k b 0 = some (t, q) ∧ t.length ≤ 13 ∧ 0 ≤ q ∧ q ≤ 100 := by
  unfold spec_l13AnyFields.f spec_l13Fields.f
  obtain ⟨v0, e0, h1, h2⟩ := pick_f k b 0 10 (by omega) hb (by omega) (by omega)
  have h3 := h2 (by omega)
  obtain ⟨n, rfl⟩ : ∃ n : Nat, v0 = n := ⟨v0.toNat, by omega⟩
  obtain ⟨t, q, e1, a, b1, c⟩ := fields_l0 hb n k [] (0 + 1) (by omega) (by omega) (by show 0 + n ≤ 10; omega) (by omega) (by omega)
  simp only [e0, e1, Option.bind_some]
  obtain ⟨v2, e2, _, _⟩ := pick_f k b q 12 (by omega) hb (by omega) (by omega)
  simp only [e2, Option.bind_some]
  by_cases c0 : v2 = 0
  · rw [if_pos c0]
    obtain ⟨v3, e3, _⟩ := one_f k b (q + 1) [0, 7, 1] (by simp) (by simp) (by omega) hb (by omega) (by omega)
    obtain ⟨v4, e4, _⟩ := one_f k b (q + 1 + 1) [0, 2] (by simp) (by simp) (by omega) hb (by omega) (by omega)
    simp only [e3, e4, Option.bind_some]
    rw [if_pos (by omega)]
    exact ⟨_, _, rfl, by rw [List.length_append, List.length_singleton]; omega, by omega, by omega⟩
  · rw [if_neg c0]
    by_cases c1 : v2 = 1
    · rw [if_pos c1]
      obtain ⟨t2, q2, e5, a2, b2, c2⟩ := any_l0 hb 13 k t (q + 1) (by omega) (by omega) (by omega) (by omega) (by omega) (by omega)
      exact ⟨t2, q2, e5, a2, b2, by omega⟩
    · rw [if_neg c1]
      exact ⟨_, _, rfl, by omega, by omega, by omega⟩
end Go.Proofs.YtjjcepnadjociaaDoor.Lem
