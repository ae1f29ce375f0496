/- The reference's comparison of nodes answers whether they are the same. -/
import Derived.Test.YtjiidjlmdibhdaaStubSame
import Derived.Test.YtjiidjlmdibhdaaPx1
import Derived.Test.YtjiidjlmdibhdaaPx2
namespace Go.Proofs.Ytjiidjlmdibhdaa.Lem
set_option linter.unusedVariables false
set_option linter.unusedSimpArgs false
open Go Go.RowKit Go.Proofs.Ytjiidjlmdibhdaa Go.Proofs.Ytjiidjlmdibhdaa.P Go.Proofs.YtjiidjlmdibhdaaW.PrintWords Go.Proofs.YtjiidjlmdibhdaaW.PrintLast Go.Proofs.YtjiidjlmdibhdaaW.PrintMore
abbrev Nd := S29
abbrev F4 (k : Nat) (z u : Nd) : Option Bool := spec_l4Same.f k z.f0 z.f1 z.f2 z.f3 z.f4 z.f5 u.f0 u.f1 u.f2 u.f3 u.f4 u.f5
/-- From some round on it answers r. -/
def Ends (g : Nat → Option Bool) (r : Bool) : Prop := ∃ K, ∀ k, K ≤ k → g k = some r
theorem step_len {i n : Nat} (h : n ≤ 9223372036854775807) (hi : i < n) : wrap64 ((i : Int) + 1) = ((i + 1 : Nat) : Int) := by rw [w64 (by omega) (by omega)]; omega
/-- No row is longer than there may be. -/
def LenOk (x : Nd) : Prop := x.f2.length ≤ 9223372036854775807 ∧ x.f5.length ≤ 9223372036854775807
theorem l4_l1 (x y : Nd) (H5 : ∀ z ∈ x.f5, ∀ u, Ends (fun k => F4 k z u) (sameV z u)) (hl : x.f5.length = y.f5.length) (hb : x.f5.length ≤ 9223372036854775807) : ∀ (n i : Nat), i + n = x.f5.length →
    Ends (fun k => spec_l4Same.l1 k (i : Int) x.f0 x.f1 x.f2 x.f3 x.f4 x.f5 y.f0 y.f1 y.f2 y.f3 y.f4 y.f5) (sameL (x.f5.drop i) (y.f5.drop i)) := by
  intro n
  induction n with
  | zero =>
    intro i hi
    refine ⟨1, fun k hk => ?_⟩
    obtain ⟨k, rfl⟩ : ∃ m, k = m + 1 := ⟨k - 1, by omega⟩
    simp only [spec_l4Same.l1]
    rw [if_neg (by omega), List.drop_eq_nil_of_le (by omega), List.drop_eq_nil_of_le (by omega)]
    simp [sameL]
  | succ n ih =>
    intro i hi
    obtain ⟨K1, h1⟩ := H5 (rd_T29 x.f5 (i : Int)) (by rw [rdN _ i (by omega)]; exact List.getElem_mem _) (rd_T29 y.f5 (i : Int))
    obtain ⟨K2, h2⟩ := ih (i + 1) (by omega)
    refine ⟨K1 + K2 + 1, fun k hk => ?_⟩
    obtain ⟨k, rfl⟩ : ∃ m, k = m + 1 := ⟨k - 1, by omega⟩
    have e1 := h1 k (by omega)
    dsimp only [F4] at e1
    have e2 := h2 k (by omega)
    simp only [spec_l4Same.l1]
    rw [if_pos (by omega), if_pos (by omega), if_pos (by omega), e1, Option.bind_some, sameL_drop (by omega) (by omega), step_len hb (by omega)]
    cases sameV (rd_T29 x.f5 (i : Int)) (rd_T29 y.f5 (i : Int)) with
    | true => rw [if_pos rfl, Bool.true_and]; exact e2
    | false => rw [if_neg (by decide), Bool.false_and]
theorem l4_l0 (x y : Nd) (H2 : ∀ z ∈ x.f2, ∀ u, Ends (fun k => F4 k z u) (sameV z u)) (H5 : ∀ z ∈ x.f5, ∀ u, Ends (fun k => F4 k z u) (sameV z u)) (hl2 : x.f2.length = y.f2.length) (hl5 : x.f5.length = y.f5.length) (hb2 : x.f2.length ≤ 9223372036854775807) (hb5 : x.f5.length ≤ 9223372036854775807) : ∀ (n i : Nat), i + n = x.f2.length →
    Ends (fun k => spec_l4Same.l0 k (i : Int) x.f0 x.f1 x.f2 x.f3 x.f4 x.f5 y.f0 y.f1 y.f2 y.f3 y.f4 y.f5) (sameL (x.f2.drop i) (y.f2.drop i) && sameL x.f5 y.f5) := by
  intro n
  induction n with
  | zero =>
    intro i hi
    obtain ⟨K, h⟩ := l4_l1 x y H5 hl5 hb5 x.f5.length 0 (by omega)
    refine ⟨K + 1, fun k hk => ?_⟩
    obtain ⟨k, rfl⟩ : ∃ m, k = m + 1 := ⟨k - 1, by omega⟩
    have e := h k (by omega)
    simp only [spec_l4Same.l0]
    rw [if_neg (by omega), List.drop_eq_nil_of_le (by omega), List.drop_eq_nil_of_le (by omega)]
    simp only [sameL, Bool.true_and]
    exact e
  | succ n ih =>
    intro i hi
    obtain ⟨K1, h1⟩ := H2 (rd_T29 x.f2 (i : Int)) (by rw [rdN _ i (by omega)]; exact List.getElem_mem _) (rd_T29 y.f2 (i : Int))
    obtain ⟨K2, h2⟩ := ih (i + 1) (by omega)
    refine ⟨K1 + K2 + 1, fun k hk => ?_⟩
    obtain ⟨k, rfl⟩ : ∃ m, k = m + 1 := ⟨k - 1, by omega⟩
    have e1 := h1 k (by omega)
    dsimp only [F4] at e1
    have e2 := h2 k (by omega)
    simp only [spec_l4Same.l0]
    rw [if_pos (by omega), if_pos (by omega), if_pos (by omega), e1, Option.bind_some, sameL_drop (by omega) (by omega), step_len hb2 (by omega)]
    cases sameV (rd_T29 x.f2 (i : Int)) (rd_T29 y.f2 (i : Int)) with
    | true => rw [if_pos rfl, Bool.true_and]; exact e2
    | false => rw [if_neg (by decide), Bool.false_and, Bool.false_and]
mutual
/-- No row of it is longer than there may be. -/
def lenN : Nd → Prop
  | ⟨_, _, p, _, _, i⟩ => lenL p ∧ lenL i
def lenL : List Nd → Prop
  | [] => True
  | x :: l => (x :: l).length ≤ 9223372036854775807 ∧ lenN x ∧ lenL l
end
theorem lenL_all : ∀ {l : List Nd}, lenL l → l.length ≤ 9223372036854775807 ∧ ∀ x ∈ l, lenN x
  | [], _ => ⟨Nat.zero_le _, fun x hx => by cases hx⟩
  | y :: l, h => by
    simp only [lenL] at h
    refine ⟨h.1, fun x hx => ?_⟩
    rcases List.mem_cons.mp hx with rfl | hx
    · exact h.2.1
    · exact (lenL_all h.2.2).2 x hx
theorem j0_true (k : Nat) (hk : 1 ≤ k) (x y : Nd) : spec_l4Same.j0 k true x.f0 x.f1 x.f2 x.f3 x.f4 x.f5 y.f0 y.f1 y.f2 y.f3 y.f4 y.f5 = some false := by
  obtain ⟨k, rfl⟩ : ∃ m, k = m + 1 := ⟨k - 1, by omega⟩
  simp only [spec_l4Same.j0, if_true]
theorem l4_ends (x : Nd) : lenN x → ∀ y, Ends (fun k => F4 k x y) (sameV x y) := by
  refine nd_all (F := fun x => lenN x → ∀ y, Ends (fun k => F4 k x y) (sameV x y)) (fun x h2 h5 hx y => ?_) x
  have hx' : lenL x.f2 ∧ lenL x.f5 := by cases x; simpa only [lenN] using hx
  obtain ⟨b2, m2⟩ := lenL_all hx'.1
  obtain ⟨b5, m5⟩ := lenL_all hx'.2
  have no : sameV x y = false → (∀ k, 2 ≤ k → F4 k x y = spec_l4Same.j0 (k - 1) true x.f0 x.f1 x.f2 x.f3 x.f4 x.f5 y.f0 y.f1 y.f2 y.f3 y.f4 y.f5) → Ends (fun k => F4 k x y) (sameV x y) := fun e h => ⟨2, fun k hk => by
    show F4 k x y = _
    rw [h k hk, j0_true _ (by omega), e]⟩
  have hd := sameV_def x y
  by_cases c0 : x.f0 = y.f0
  · by_cases c1 : x.f1.toList = y.f1.toList
    · by_cases c3 : x.f3 = y.f3
      · by_cases c4 : x.f4 = y.f4
        · have hd2 : sameV x y = (sameL x.f2 y.f2 && sameL x.f5 y.f5) := by rw [hd, beq_iff_eq.mpr c0, decide_eq_true c1, beq_iff_eq.mpr c3, beq_iff_eq.mpr c4]; rfl
          by_cases c2 : x.f2.length = y.f2.length
          · by_cases c5 : x.f5.length = y.f5.length
            · obtain ⟨K, h⟩ := l4_l0 x y (fun z hz => h2 z hz (m2 z hz)) (fun z hz => h5 z hz (m5 z hz)) c2 c5 b2 b5 x.f2.length 0 (by omega)
              refine ⟨K + 2, fun k hk => ?_⟩
              obtain ⟨k, rfl⟩ : ∃ m, k = m + 2 := ⟨k - 2, by omega⟩
              have e := h k (by omega)
              show spec_l4Same.f (k + 1 + 1) _ _ _ _ _ _ _ _ _ _ _ _ = _
              simp only [spec_l4Same.f, spec_l4Same.j0]
              rw [if_pos c0, if_pos c1, if_pos c3, if_pos c4, if_pos (by rw [c2]), if_neg (by rw [c5]; simp), hd2]
              exact e
            · refine no (by
                rw [hd2]
                cases h : sameL x.f5 y.f5 with
                | false => rw [Bool.and_false]
                | true => exact absurd (sameL_length h) c5) (fun k hk => ?_)
              obtain ⟨k, rfl⟩ : ∃ m, k = m + 1 := ⟨k - 1, by omega⟩
              show spec_l4Same.f (k + 1) _ _ _ _ _ _ _ _ _ _ _ _ = _
              simp only [spec_l4Same.f]
              rw [if_pos c0, if_pos c1, if_pos c3, if_pos c4, if_pos (by rw [c2]), show ((x.f5.length : Int) != (y.f5.length : Int)) = true from bne_iff_ne.mpr (by omega)]
              rfl
          · refine no (by
              rw [hd2]
              cases h : sameL x.f2 y.f2 with
              | false => rw [Bool.false_and]
              | true => exact absurd (sameL_length h) c2) (fun k hk => ?_)
            obtain ⟨k, rfl⟩ : ∃ m, k = m + 1 := ⟨k - 1, by omega⟩
            show spec_l4Same.f (k + 1) _ _ _ _ _ _ _ _ _ _ _ _ = _
            simp only [spec_l4Same.f]
            rw [if_pos c0, if_pos c1, if_pos c3, if_pos c4, if_neg (by omega)]
            rfl
        · refine no (by rw [hd, beq_eq_false_iff_ne.mpr c4]; simp) (fun k hk => ?_)
          obtain ⟨k, rfl⟩ : ∃ m, k = m + 1 := ⟨k - 1, by omega⟩
          show spec_l4Same.f (k + 1) _ _ _ _ _ _ _ _ _ _ _ _ = _
          simp only [spec_l4Same.f]
          rw [if_pos c0, if_pos c1, if_pos c3, if_neg c4]
          rfl
      · refine no (by rw [hd, beq_eq_false_iff_ne.mpr c3]; simp) (fun k hk => ?_)
        obtain ⟨k, rfl⟩ : ∃ m, k = m + 1 := ⟨k - 1, by omega⟩
        show spec_l4Same.f (k + 1) _ _ _ _ _ _ _ _ _ _ _ _ = _
        simp only [spec_l4Same.f]
        rw [if_pos c0, if_pos c1, if_neg c3]
        rfl
    · refine no (by rw [hd, decide_eq_false c1]; simp) (fun k hk => ?_)
      obtain ⟨k, rfl⟩ : ∃ m, k = m + 1 := ⟨k - 1, by omega⟩
      show spec_l4Same.f (k + 1) _ _ _ _ _ _ _ _ _ _ _ _ = _
      simp only [spec_l4Same.f]
      rw [if_pos c0, if_neg c1]
      rfl
  · refine no (by rw [hd, beq_eq_false_iff_ne.mpr c0]; simp) (fun k hk => ?_)
    obtain ⟨k, rfl⟩ : ∃ m, k = m + 1 := ⟨k - 1, by omega⟩
    show spec_l4Same.f (k + 1) _ _ _ _ _ _ _ _ _ _ _ _ = _
    simp only [spec_l4Same.f]
    rw [if_neg c0]
    rfl
end Go.Proofs.Ytjiidjlmdibhdaa.Lem
