/- Choices of data share the beginning of a room, or have one of their own; those of pointers share one: the pure statement. -/
import Derived.Test.YtjjcepnadjociaaDoorLemLayoutAll
import Derived.Test.YtjjcepnadjociaaDoorPx25
namespace Go.Proofs.YtjjcepnadjociaaDoor.Pure
set_option linter.unusedVariables false
set_option linter.unusedSimpArgs false
open Go Go.RowKit Go.Proofs.YtjjcepnadjociaaDoor Go.Proofs.YtjjcepnadjociaaDoor.P Go.Proofs.YtjjcepnadjociaaDoor.Lem Go.Proofs.YtjjcepnadjociaaDoorW.PrintWords Go.Proofs.YtjjcepnadjociaaDoorW.PrintLast
theorem bitsOut {t : List S27} (hok : okF t = true) (i : Nat) (h : i < t.length) (h6 : sizeAt t i ≠ 6) : impl_LayoutBits.f t (i : Int) = some (slotAt t i * bitsOf (sizeAt t i), slotAt t i * bitsOf (sizeAt t i) + bitsOf (sizeAt t i)) := by
  unfold impl_LayoutBits.f
  rw [if_pos ⟨hok, by omega, by omega, h6⟩]
theorem bitsSome (t : List S27) (a : Int) : ∃ r, impl_LayoutBits.f t a = some r := by
  unfold impl_LayoutBits.f
  split <;> exact ⟨_, rfl⟩
/-- Two choices of pointers. -/
theorem ch_points {t : List S27} (hok : okF t = true) (i j : Nat) (hi : i < t.length) (hj : j < t.length) (ci : (rd_T27 t (i : Int)).f1 = true) (cj : (rd_T27 t (j : Int)).f1 = true) (h6 : sizeAt t i = 6) (h6' : sizeAt t j = 6) : slotAt t i = slotAt t j := by
  obtain ⟨B, F⟩ := laid_finv t
  have gi := laidF_get t i hi
  have gj := laidF_get t j hj
  have a : slotAt t i = _ := (F.ptrc i _ gi h6 ci).1
  have b : slotAt t j = _ := (F.ptrc j _ gj h6' cj).1
  rw [a, b]
/-- Two choices of data. -/
theorem ch_data {t : List S27} (hok : okF t = true) (i j : Nat) (hi : i < t.length) (hj : j < t.length) (ci : (rd_T27 t (i : Int)).f1 = true) (cj : (rd_T27 t (j : Int)).f1 = true) (h6 : sizeAt t i ≠ 6) (h6' : sizeAt t j ≠ 6)
    (h1 : slotAt t i * bitsOf (sizeAt t i) < slotAt t j * bitsOf (sizeAt t j) + bitsOf (sizeAt t j)) (h2 : slotAt t j * bitsOf (sizeAt t j) < slotAt t i * bitsOf (sizeAt t i) + bitsOf (sizeAt t i)) : slotAt t i * bitsOf (sizeAt t i) = slotAt t j * bitsOf (sizeAt t j) := by
  obtain ⟨B, F⟩ := laid_finv t
  have hG := okF_good hok
  have gi := laidF_get t i hi
  have gj := laidF_get t j hj
  obtain ⟨r, a, b, c⟩ := F.choice i _ gi h6 ci
  obtain ⟨r', a', b', c'⟩ := F.choice j _ gj h6' cj
  have e := (slot_range2 hG i hi h6).1
  have e' := (slot_range2 hG j hj h6').1
  have b2 : slotAt t i * 2 ^ scl (sizeAt t i) = r.1 := b
  have b2' : slotAt t j * 2 ^ scl (sizeAt t j) = r'.1 := b'
  rw [e, e', b2, b2'] at h1 h2 ⊢
  have m := p2mono c
  have m' := p2mono c'
  have m2 : (2 : Int) ^ scl (sizeAt t i) ≤ 2 ^ r.2 := m
  have m2' : (2 : Int) ^ scl (sizeAt t j) ≤ 2 ^ r'.2 := m'
  rcases F.led.disj _ a _ a' with h | h
  · injection h with h _
    rw [h]
  · have h' : r.1 + 2 ^ r.2 ≤ r'.1 ∨ r'.1 + 2 ^ r'.2 ≤ r.1 := h
    omega
theorem ch_tag (t : List S27) : (decide ((layS t).2.tag ≥ 0) == decide (nChoice (t.map fieldP) ≥ 2)) = true := by
  obtain ⟨B, F⟩ := laid_finv t
  have hc : (layS t).2.choices = PS.new.choices + nChoice (t.map fieldP) := lay_choices (t.map fieldP) PS.new
  have h0 : PS.new.choices = 0 := rfl
  obtain ⟨h1, h2⟩ := F.tagn
  rw [beq_iff_eq, decide_eq_decide]
  constructor
  · intro h
    rcases Int.lt_or_le (layS t).2.choices 2 with hl | hl
    · have := h1 hl; omega
    · omega
  · intro h
    exact h2 (by omega)
theorem ch_l1 {t : List S27} (hok : okF t = true) (w p g : Int) (x8 : Int) (i : Nat) (hi : i < t.length) (ci : (rd_T27 t (i : Int)).f1 = true) (F : Nat) (H : ∀ k, F ≤ k → laws_FnLayoutChoices.l0 k t x8 (wrap64 ((i : Int) + 1)) w p (slotsOf t) g = some true) :
    ∀ (m j k : Nat), j + m = i → F + m + 1 ≤ k → laws_FnLayoutChoices.l1 k t x8 (i : Int) (j : Int) w p (slotsOf t) g = some true := by
  have hlen := (okF_good hok).1
  intro m
  induction m with
  | zero =>
    intro j k hj hk
    obtain ⟨k, rfl⟩ : ∃ m, k = m + 1 := ⟨k - 1, by omega⟩
    simp only [laws_FnLayoutChoices.l1]
    rw [if_neg (by omega)]
    exact H k (by omega)
  | succ m ih =>
    intro j k hj hk
    obtain ⟨k, rfl⟩ : ∃ m, k = m + 1 := ⟨k - 1, by omega⟩
    have hjl : j < t.length := by omega
    have ew : wrap64 ((j : Int) + 1) = ((j + 1 : Nat) : Int) := by rw [wrap64_id (by omega) (by omega)]; omega
    have go := ih (j + 1) k (by omega) (by omega)
    simp only [laws_FnLayoutChoices.l1]
    rw [if_pos (by omega), if_pos (by omega), if_pos (by omega), ew]
    by_cases cj : (rd_T27 t (j : Int)).f1 = true
    · rw [if_pos cj]
      obtain ⟨r, hr⟩ := bitsSome t (i : Int)
      obtain ⟨r', hr'⟩ := bitsSome t (j : Int)
      rw [hr, Option.bind_some, hr', Option.bind_some, if_pos (by omega), if_pos (by omega)]
      by_cases h6 : sizeAt t i = 6
      · rw [if_pos (show (rd_T27 t (i : Int)).f0 = 6 from h6)]
        by_cases h6' : sizeAt t j = 6
        · rw [if_pos (show (rd_T27 t (j : Int)).f0 = 6 from h6'), if_pos (by rw [slotsOf_length]; omega), if_pos (by rw [slotsOf_length]; omega), if_neg ?_]
          · exact go
          · have := ch_points hok i j hi hjl ci cj h6 h6'
            have e : ((rd_T34 (slotsOf t) (i : Int)).f0 == (rd_T34 (slotsOf t) (j : Int)).f0) = true := beq_iff_eq.mpr this
            rw [e]
            decide
        · rw [if_neg (show ¬ (rd_T27 t (j : Int)).f0 = 6 from h6')]
          exact go
      · rw [if_neg (show ¬ (rd_T27 t (i : Int)).f0 = 6 from h6)]
        by_cases h6' : sizeAt t j = 6
        · rw [if_pos (show (rd_T27 t (j : Int)).f0 = 6 from h6')]
          exact go
        · rw [if_neg (show ¬ (rd_T27 t (j : Int)).f0 = 6 from h6')]
          by_cases h1 : r.1 < r'.2
          · rw [if_pos h1]
            by_cases h2 : r'.1 < r.2
            · rw [if_pos h2, if_pos ?_]
              · exact go
              · rw [bitsOut hok i hi h6] at hr
                rw [bitsOut hok j hjl h6'] at hr'
                injection hr with hr
                injection hr' with hr'
                subst hr hr'
                exact ch_data hok i j hi hjl ci cj h6 h6' h1 h2
            · rw [if_neg h2]
              exact go
          · rw [if_neg h1]
            exact go
    · rw [if_neg cj]
      exact go
theorem nChoice_snoc (f : Int × Bool) : ∀ l : List (Int × Bool), nChoice (l ++ [f]) = nChoice l + (if f.2 = true then 1 else 0)
  | [] => by simp [nChoice]
  | g :: l => by simp only [List.cons_append, nChoice, nChoice_snoc f l]; omega
theorem nChoice_le (l : List (Int × Bool)) : nChoice l ≤ l.length := by
  induction l with
  | nil => simp [nChoice]
  | cons f l ih =>
    rw [nChoice_cons, List.length_cons]
    split <;> omega
theorem ch_l0 {t : List S27} (hok : okF t = true) : ∀ (n i k : Nat), i + n = t.length → n * 20 + 1 ≤ k →
    laws_FnLayoutChoices.l0 k t (nChoice ((t.take i).map fieldP)) (i : Int) (layS t).2.words (layS t).2.ptrs (slotsOf t) (layS t).2.tag = some true := by
  have hlen := (okF_good hok).1
  intro n
  induction n with
  | zero =>
    intro i k hi hk
    obtain ⟨k, rfl⟩ : ∃ m, k = m + 1 := ⟨k - 1, by omega⟩
    simp only [laws_FnLayoutChoices.l0]
    rw [if_neg (by omega), List.take_of_length_le (by omega), ch_tag]
  | succ n ih =>
    intro i k hi hk
    obtain ⟨k, rfl⟩ : ∃ m, k = m + 1 := ⟨k - 1, by omega⟩
    have hlt : i < t.length := by omega
    have ew : wrap64 ((i : Int) + 1) = ((i + 1 : Nat) : Int) := by rw [wrap64_id (by omega) (by omega)]; omega
    have etk : t.take (i + 1) = t.take i ++ [rd_T27 t (i : Int)] := by rw [rdI t i hlt, List.take_succ_eq_append_getElem hlt]
    have ec : nChoice ((t.take (i + 1)).map fieldP) = nChoice ((t.take i).map fieldP) + (if (rd_T27 t (i : Int)).f1 = true then 1 else 0) := by
      rw [etk, List.map_append]
      exact nChoice_snoc _ _
    have hc0 := nChoice_nonneg ((t.take i).map fieldP)
    have hc1 := nChoice_le ((t.take i).map fieldP)
    rw [List.length_map, List.length_take] at hc1
    simp only [laws_FnLayoutChoices.l0]
    rw [if_pos (by omega), if_pos (by omega)]
    by_cases ci : (rd_T27 t (i : Int)).f1 = true
    · rw [if_pos ci] at ec ⊢
      rw [wrap64_id (n := nChoice ((t.take i).map fieldP) + 1) (by omega) (by omega), ← ec]
      exact ch_l1 hok _ _ _ _ i hlt ci (n * 20 + 1) (fun q hq => by rw [ew]; exact ih (i + 1) q (by omega) hq) i 0 k (by omega) (by omega)
    · rw [if_neg ci, Int.add_zero] at ec
      rw [if_neg ci, ew, ← ec]
      exact ih (i + 1) k (by omega) (by omega)
theorem FnLayoutChoices_ (l : List Int) (h : ∀ x ∈ l, (Lit.int .u8 x).wf = true) : ∃ k, laws_FnLayoutChoices.f k l = some true := by
  obtain ⟨k, hk⟩ : ∃ k : Nat, 400 ≤ k := ⟨400, Nat.le_refl _⟩
  refine ⟨k, ?_⟩
  unfold laws_FnLayoutChoices.f
  by_cases hc : (l.length : Int) > 1048576
  · rw [if_pos hc]
  · obtain ⟨t, hd, ht⟩ := drawOf_f l h k (by omega)
    rw [if_neg hc, hd, Option.bind_some]
    obtain ⟨k, rfl⟩ : ∃ m, k = m + 1 := ⟨k - 1, by omega⟩
    rw [specOf_f t (by omega) (k + 1) (by omega)]
    by_cases hok : okF t = true
    · rw [implOf_ok hok, Option.bind_some, Option.bind_some]
      simp only [bne_self_eq_false, Bool.false_eq_true, if_false]
      rw [qn_f _ _ _ _ (by rw [slotsOf_length]; omega) (k + 1) (by rw [slotsOf_length]; omega), Option.bind_some, if_pos rfl]
      simp only [laws_FnLayoutChoices.j0]
      rw [if_neg (by decide)]
      exact ch_l0 hok t.length 0 k (by omega) (by omega)
    · have hno : okF t = false := by simpa using hok
      rw [implOf_no hno, Option.bind_some, Option.bind_some]
      simp only [bne_self_eq_false, Bool.false_eq_true, if_false]
      rw [qn_f _ _ _ _ (by simp) (k + 1) (by simp; omega), Option.bind_some, if_pos rfl]
      simp only [laws_FnLayoutChoices.j0]
      rw [if_pos (by decide), if_pos (by decide), qn_f _ _ _ _ (by simp) k (by simp; omega)]
      rfl
theorem FnLayoutChoices : laws_FnLayoutChoices.Pure := fun l _ _ h => FnLayoutChoices_ l h
end Go.Proofs.YtjjcepnadjociaaDoor.Pure
