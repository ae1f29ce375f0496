/- Fields of one size stand side by side from the beginning on: the pure statement. -/
import Derived.Test.YtjjcepnadjociaaDoorLemLayoutAll
import Derived.Test.YtjjcepnadjociaaDoorPx11
namespace Go.Proofs.YtjjcepnadjociaaDoor.Pure
set_option linter.unusedVariables false
open Go Go.RowKit Go.Proofs.YtjjcepnadjociaaDoor Go.Proofs.YtjjcepnadjociaaDoor.P Go.Proofs.YtjjcepnadjociaaDoor.Lem Go.Proofs.YtjjcepnadjociaaDoorW.PrintWords Go.Proofs.YtjjcepnadjociaaDoorW.PrintLast
/-- Twelve of one size. -/
def same (s : Int) (n : Nat) : List S27 := List.replicate n ⟨s, false, 0⟩
theorem same_ok (s : Int) (h : 1 ≤ s ∧ s ≤ 6) : okF (same s 12) = true := by
  rcases (by omega : s = 1 ∨ s = 2 ∨ s = 3 ∨ s = 4 ∨ s = 5 ∨ s = 6) with rfl | rfl | rfl | rfl | rfl | rfl <;> decide +kernel
theorem same_lay (s : Int) (h : 1 ≤ s ∧ s ≤ 6) : (layS (same s 12)).1 = [0, 1, 2, 3, 4, 5, 6, 7, 8, 9, 10, 11] ∧ (layS (same s 12)).2.tag = -1 := by
  unfold layS same
  rw [List.map_replicate]
  exact lay_same s h.1 h.2
theorem l1_all (ok : Bool) (w p : Int) (xs : Slots) (t : Int) (hx : xs = [⟨0⟩, ⟨1⟩, ⟨2⟩, ⟨3⟩, ⟨4⟩, ⟨5⟩, ⟨6⟩, ⟨7⟩, ⟨8⟩, ⟨9⟩, ⟨10⟩, ⟨11⟩]) (ht : t = -1) (hok : ok = true) : ∀ (n i k : Nat), i + n = 12 → n < k → laws_FnFieldsAll.l1 k ok (i : Int) w p xs t = some true := by
  intro n
  induction n with
  | zero =>
    intro i k hi hk
    obtain ⟨k, rfl⟩ : ∃ m, k = m + 1 := ⟨k - 1, by omega⟩
    obtain rfl : i = 12 := by omega
    simp only [laws_FnFieldsAll.l1]
    rw [hx, ht, hok]
    rfl
  | succ n ih =>
    intro i k hi hk
    obtain ⟨k, rfl⟩ : ∃ m, k = m + 1 := ⟨k - 1, by omega⟩
    simp only [laws_FnFieldsAll.l1]
    have hl : xs.length = 12 := by rw [hx]; rfl
    rw [if_pos (by rw [hl]; omega), if_pos (by omega), if_pos ?_, wrap64_id (n := (i : Int) + 1) (by omega) (by omega)]
    · exact ih (i + 1) k (by omega) (by omega)
    · rw [rdS xs i (by omega)]
      subst hx
      have hi : i < 12 := by omega
      have key : ∀ (i : Nat) (h : i < 12), ([⟨0⟩, ⟨1⟩, ⟨2⟩, ⟨3⟩, ⟨4⟩, ⟨5⟩, ⟨6⟩, ⟨7⟩, ⟨8⟩, ⟨9⟩, ⟨10⟩, ⟨11⟩] : Slots)[i].f0 = (i : Int) := by
        intro i h
        rcases (by omega : i = 0 ∨ i = 1 ∨ i = 2 ∨ i = 3 ∨ i = 4 ∨ i = 5 ∨ i = 6 ∨ i = 7 ∨ i = 8 ∨ i = 9 ∨ i = 10 ∨ i = 11) with rfl | rfl | rfl | rfl | rfl | rfl | rfl | rfl | rfl | rfl | rfl | rfl <;> rfl
      exact key i hi
theorem l0_all (x : List S27) (hx : 0 < x.length) (hs : 1 ≤ (rd_T27 x 0).f0 ∧ (rd_T27 x 0).f0 ≤ 6) : ∀ (n i k : Nat), i + n = 12 → n + 14 < k → laws_FnFieldsAll.l0 k x (same (rd_T27 x 0).f0 i) (i : Int) = some true := by
  intro n
  induction n with
  | zero =>
    intro i k hi hk
    obtain ⟨k, rfl⟩ : ∃ m, k = m + 1 := ⟨k - 1, by omega⟩
    obtain rfl : i = 12 := by omega
    simp only [laws_FnFieldsAll.l0]
    rw [if_neg (by omega), implOf_ok (same_ok _ hs)]
    simp only [Option.bind_some]
    obtain ⟨a, b⟩ := same_lay _ hs
    exact l1_all _ _ _ _ _ (by unfold slotsOf; rw [a]; rfl) b rfl 12 0 k (by omega) (by omega)
  | succ n ih =>
    intro i k hi hk
    obtain ⟨k, rfl⟩ : ∃ m, k = m + 1 := ⟨k - 1, by omega⟩
    simp only [laws_FnFieldsAll.l0]
    rw [if_pos (by omega), if_pos (by omega), if_pos (by unfold same; rw [List.length_replicate]; omega), wrap64_id (n := (i : Int) + 1) (by omega) (by omega)]
    have e : same (rd_T27 x 0).f0 i ++ [⟨(rd_T27 x 0).f0, false, 0⟩] = same (rd_T27 x 0).f0 (i + 1) := by
      unfold same
      rw [List.replicate_succ']
    rw [e]
    exact ih (i + 1) k (by omega) (by omega)
theorem FnFieldsAll_ (l : List Int) (h : ∀ x ∈ l, (Lit.int .u8 x).wf = true) : ∃ k, laws_FnFieldsAll.f k l = some true := by
  refine ⟨50, ?_⟩
  unfold laws_FnFieldsAll.f
  by_cases hc : (l.length : Int) > 1048576
  · rw [if_pos hc]
  · rw [if_neg hc]
    obtain ⟨b, hb, hB⟩ := open_f l h
    obtain ⟨t, q, e, ht, _, _⟩ := anyFields_f hB 50 (by decide)
    have hd : spec_DrawFieldsOk.f 50 l = some t := by
      unfold spec_DrawFieldsOk.f
      simp only [hb, Option.bind_some, e]
    simp only [hd, Option.bind_some, okF_f]
    rw [specOk_f t (by omega) 50 (by omega)]
    simp only [Option.bind_some, bne_self_eq_false, Bool.false_eq_true, if_false]
    have fall : ∀ (c : Bool), laws_FnFieldsAll.j0 50 t c true = (spec_FieldsOk.f 49 t).bind fun r => some (c == r) := fun c => by simp only [laws_FnFieldsAll.j0, if_true]
    by_cases hok : okF t = true
    · rw [if_pos hok]
      by_cases h0 : (t.length : Int) = 0
      · rw [show ((t.length : Int) == 0) = true from beq_iff_eq.mpr h0, fall, specOk_f t (by omega) 49 (by omega), hok]
        rfl
      · rw [show ((t.length : Int) == 0) = false from beq_eq_false_iff_ne.mpr h0]
        simp only [laws_FnFieldsAll.j0]
        rw [if_neg (by simp)]
        exact l0_all t (by omega) (sizeAt_good (okF_good hok) 0 (by omega)) 12 0 49 (by omega) (by omega)
    · rw [if_neg hok, fall, specOk_f t (by omega) 49 (by omega), Option.bind_some]
      simp
theorem FnFieldsAll : laws_FnFieldsAll.Pure := fun l _ _ h => FnFieldsAll_ l h
end Go.Proofs.YtjjcepnadjociaaDoor.Pure
