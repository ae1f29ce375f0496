/- A field has as many bits as its size: the pure statement. -/
import Derived.Test.YtjjcepnadjociaaDoorLemLayoutAll
import Derived.Test.YtjjcepnadjociaaDoorPx23
import Derived.Test.YtjjcepnadjociaaDoorPx24
namespace Go.Proofs.YtjjcepnadjociaaDoor.Pure
set_option linter.unusedVariables false
open Go Go.RowKit Go.Proofs.YtjjcepnadjociaaDoor Go.Proofs.YtjjcepnadjociaaDoor.P Go.Proofs.YtjjcepnadjociaaDoor.Lem Go.Proofs.YtjjcepnadjociaaDoorW.PrintWords Go.Proofs.YtjjcepnadjociaaDoorW.PrintLast
theorem bits_rd (s : Int) (h : 1 ≤ s ∧ s ≤ 5) : rd [0, 1, 8, 16, 32, 64] s = bitsOf s := by
  rcases (by omega : s = 1 ∨ s = 2 ∨ s = 3 ∨ s = 4 ∨ s = 5) with rfl | rfl | rfl | rfl | rfl <;> rfl
theorem FnLayoutBits_ (l : List Int) (h : ∀ x ∈ l, (Lit.int .u8 x).wf = true) : ∃ k, laws_FnLayoutBits.f k l = some true := by
  obtain ⟨k, hk⟩ : ∃ k : Nat, 50 ≤ k := ⟨50, Nat.le_refl _⟩
  refine ⟨k, ?_⟩
  unfold laws_FnLayoutBits.f
  by_cases hc : (l.length : Int) > 1048576
  · rw [if_pos hc]
  · rw [if_neg hc]
    obtain ⟨b, hb, hB⟩ := open_f l h
    obtain ⟨t, q, e, ht, hq0, hq1⟩ := anyFields_f hB k (by omega)
    obtain ⟨v, ev, _, _⟩ := pick_f k b q (wrap64 ((t.length : Int) + 2)) (by omega) hB hq0 (by omega)
    have hd : spec_DrawLayoutBits.f k l = some (t, wrap64 (v - 1)) := by
      unfold spec_DrawLayoutBits.f
      rw [hb, Option.bind_some]
      show ((spec_l13AnyFields.f k b 0).bind fun bt352 => ((spec_l1Rd_pick.f k b bt352.2 (wrap64 ((bt352.1.length : Int) + 2))).bind fun bt356 => (some (bt352.1, wrap64 (bt356.1 - 1))))) = _
      rw [e, Option.bind_some]
      show ((spec_l1Rd_pick.f k b q (wrap64 ((t.length : Int) + 2))).bind fun bt356 => (some (t, wrap64 (bt356.1 - 1)))) = _
      rw [ev, Option.bind_some]
    simp only [hd, Option.bind_some, specBits_f t (by omega) (wrap64 (v - 1)) k (by omega)]
    generalize wrap64 (v - 1) = a at *
    obtain ⟨⟨r1, r2⟩, hr⟩ : ∃ r, impl_LayoutBits.f t a = some r := by
      unfold impl_LayoutBits.f
      split <;> exact ⟨_, rfl⟩
    simp only [hr, Option.bind_some, if_true, beq_self_eq_true, specOk_f t (by omega) k (by omega)]
    by_cases hok : okF t = true
    · rw [if_pos hok]
      by_cases h1 : a < 0
      · rw [if_pos h1]
      · rw [if_neg h1]
        by_cases h2 : a ≥ (t.length : Int)
        · rw [if_pos h2]
        · rw [if_neg h2, if_pos (by omega), if_pos (by omega)]
          obtain ⟨i, rfl⟩ : ∃ i : Nat, a = i := ⟨a.toNat, by omega⟩
          have hlt : i < t.length := by omega
          have hG := okF_good hok
          have hs := sizeAt_good hG i hlt
          have es : (rd_T27 t (i : Int)).f0 = sizeAt t i := rfl
          rw [es]
          by_cases h6 : sizeAt t i = 6
          · rw [if_pos h6]
          · obtain ⟨q1, q2, q3, q4, q5, q6, q7⟩ := slot_range2 hG i hlt h6
            rw [if_neg h6, implOf_ok hok]
            simp only [Option.bind_some]
            rw [if_pos (by omega), if_pos (by show sizeAt t i < 6; omega), if_pos trivial, bits_rd _ ⟨hs.1, by omega⟩]
            have hr2 : impl_LayoutBits.f t (i : Int) = some (slotAt t i * bitsOf (sizeAt t i), slotAt t i * bitsOf (sizeAt t i) + bitsOf (sizeAt t i)) := by
              unfold impl_LayoutBits.f
              rw [if_pos ⟨hok, by omega, by omega, h6⟩]
            rw [hr2] at hr
            injection hr with hr
            injection hr with x1 x2
            rw [← x1, ← x2, if_pos (by rw [wrap64_id (by omega) (by omega)]; omega), if_pos (by rw [slotsOf_length]; omega)]
            have e3 : (rd_T34 (slotsOf t) (i : Int)).f0 = slotAt t i := rfl
            rw [e3, wrap64_id (by omega) (by omega)]
            simp
    · rw [if_neg hok]
theorem FnLayoutBits : laws_FnLayoutBits.Pure := fun l _ _ h => FnLayoutBits_ l h
end Go.Proofs.YtjjcepnadjociaaDoor.Pure
