/- The program's LayoutOf answers what the reference's does, in memory of its own: the pure statement. -/
import Derived.Test.YtjjcepnadjociaaDoorLemLayoutAll
import Derived.Test.YtjjcepnadjociaaDoorPx26
import Derived.Test.YtjjcepnadjociaaDoorPx27
import Derived.Test.YtjjcepnadjociaaDoorPx28
import Derived.Test.YtjjcepnadjociaaDoorPx29
import Derived.Test.YtjjcepnadjociaaDoorPx30
import Derived.Test.YtjjcepnadjociaaDoorPx31
import Derived.Test.YtjjcepnadjociaaDoorPx32
import Derived.Test.YtjjcepnadjociaaDoorPx33
namespace Go.Proofs.YtjjcepnadjociaaDoor.Pure
set_option linter.unusedVariables false
set_option linter.unusedSimpArgs false
open Go Go.RowKit Go.Proofs.YtjjcepnadjociaaDoor Go.Proofs.YtjjcepnadjociaaDoor.P Go.Proofs.YtjjcepnadjociaaDoor.Lem Go.Proofs.YtjjcepnadjociaaDoorW.PrintWords Go.Proofs.YtjjcepnadjociaaDoorW.PrintLast
theorem wrapS (i : Nat) (h : i ≤ 1048576) : wrap64 ((i : Int) + 1) = ((i + 1 : Nat) : Int) := by rw [wrap64_id (by omega) (by omega)]; omega
theorem eqs_l0 (xs : Slots) (hl : xs.length ≤ 1048576) : ∀ (n i k : Nat), i + n = xs.length → n < k → laws_eqSlotS.l0 k xs xs (i : Int) = some true := by
  intro n
  induction n with
  | zero =>
    intro i k hi hk
    obtain ⟨k, rfl⟩ : ∃ m, k = m + 1 := ⟨k - 1, by omega⟩
    simp only [laws_eqSlotS.l0]
    rw [if_neg (by omega)]
  | succ n ih =>
    intro i k hi hk
    obtain ⟨k, rfl⟩ : ∃ m, k = m + 1 := ⟨k - 1, by omega⟩
    simp only [laws_eqSlotS.l0, laws_eqSlot.f, if_true, Option.bind_some]
    rw [if_pos (by omega), if_pos (by omega), if_pos (by omega), wrapS i (by omega)]
    exact ih (i + 1) k (by omega) (by omega)
theorem eqLayout_f (a b : Int) (xs : Slots) (c : Int) (hl : xs.length ≤ 1048576) (k : Nat) (hk : xs.length < k) : laws_eqLayout.f k a b xs c a b xs c = some true := by
  unfold laws_eqLayout.f laws_eqSlotS.f
  have h := eqs_l0 xs hl xs.length 0 k (by omega) hk
  rw [if_pos rfl, if_pos rfl, if_pos rfl]
  show ((laws_eqSlotS.l0 k xs xs ((0 : Nat) : Int)).bind fun t465 => (if t465 = true then (if c = c then (some true) else (some false)) else (some false))) = _
  rw [h, Option.bind_some, if_pos rfl, if_pos rfl]
theorem markF_l0 : ∀ (n i k : Nat) (x : List S27) (m : Int), i + n = x.length → n < k → x.length ≤ 1048576 → 0 ≤ m → m ≤ 3 * i + 1 → ∃ r, laws_markFieldS.l0 k x m (i : Int) = some r ∧ 0 ≤ r.1 := by
  intro n
  induction n with
  | zero =>
    intro i k x m hi hk hl h0 h1
    obtain ⟨k, rfl⟩ : ∃ m, k = m + 1 := ⟨k - 1, by omega⟩
    simp only [laws_markFieldS.l0]
    rw [if_neg (by omega)]
    exact ⟨_, rfl, h0⟩
  | succ n ih =>
    intro i k x m hi hk hl h0 h1
    obtain ⟨k, rfl⟩ : ∃ m, k = m + 1 := ⟨k - 1, by omega⟩
    simp only [laws_markFieldS.l0, Option.bind_some]
    rw [if_pos (by omega), if_pos (by omega), wrapS i (by omega), wrap64_id (n := m + 1) (by omega) (by omega), wrap64_id (n := m + 1 + 1) (by omega) (by omega), wrap64_id (n := m + 1 + 1 + 1) (by omega) (by omega)]
    exact ih (i + 1) k _ _ (by simp only [List.length_set]; omega) (by omega) (by simp only [List.length_set]; omega) (by omega) (by omega)
theorem markS_l0 : ∀ (n i k : Nat) (x : Slots), i + n = x.length → n < k → x.length ≤ 1048576 → (∀ j : Nat, j < i → (rd_T34 x (j : Int)).f0 = (j : Int) + 1) → ∃ y, laws_markSlotS.l0 k x ((i : Int) + 1) (i : Int) = some ((x.length : Int) + 1, y) ∧ y.length = x.length ∧ ∀ j : Nat, j < x.length → (rd_T34 y (j : Int)).f0 = (j : Int) + 1 := by
  intro n
  induction n with
  | zero =>
    intro i k x hi hk hl hx
    obtain ⟨k, rfl⟩ : ∃ m, k = m + 1 := ⟨k - 1, by omega⟩
    simp only [laws_markSlotS.l0]
    rw [if_neg (by omega)]
    have e : i = x.length := by omega
    exact ⟨x, by rw [e], rfl, fun j hj => hx j (by omega)⟩
  | succ n ih =>
    intro i k x hi hk hl hx
    obtain ⟨k, rfl⟩ : ∃ m, k = m + 1 := ⟨k - 1, by omega⟩
    simp only [laws_markSlotS.l0]
    rw [if_pos (by omega), if_pos (by omega), wrapS i (by omega)]
    have e : wrap64 ((i : Int) + 1 + 1) = ((i + 1 : Nat) : Int) + 1 := by rw [wrap64_id (by omega) (by omega)]; omega
    have e' : wrap64 (((i + 1 : Nat) : Int) + 1) = ((i + 1 : Nat) : Int) + 1 := by rw [wrap64_id (by omega) (by omega)]
    rw [show (i : Int) + 1 = ((i + 1 : Nat) : Int) by omega, e']
    obtain ⟨y, h1, h2, h3⟩ := ih (i + 1) k (x.set ((i : Int)).toNat ⟨((i + 1 : Nat) : Int)⟩) (by rw [List.length_set]; omega) (by omega) (by rw [List.length_set]; omega) (fun j hj => by
      rw [rdS _ j (by rw [List.length_set]; omega), List.getElem_set, Int.toNat_natCast]
      by_cases hji : i = j
      · subst hji
        rw [if_pos rfl]
        show ((i + 1 : Nat) : Int) = _
        omega
      · rw [if_neg hji, ← rdS x j (by omega)]
        exact hx j (by omega))
    rw [List.length_set] at h1 h2 h3
    exact ⟨y, h1, h2, h3⟩
theorem held_l0 (y : Slots) (hl : y.length ≤ 1048576) (hy : ∀ j : Nat, j < y.length → (rd_T34 y (j : Int)).f0 = (j : Int) + 1) : ∀ (n i k : Nat), i + n = y.length → n < k → laws_heldSlotS.l0 k y ((i : Int) + 1) (i : Int) = some ((y.length : Int) + 1) := by
  intro n
  induction n with
  | zero =>
    intro i k hi hk
    obtain ⟨k, rfl⟩ : ∃ m, k = m + 1 := ⟨k - 1, by omega⟩
    simp only [laws_heldSlotS.l0]
    rw [if_neg (by omega)]
    have e : i = y.length := by omega
    rw [e]
  | succ n ih =>
    intro i k hi hk
    obtain ⟨k, rfl⟩ : ∃ m, k = m + 1 := ⟨k - 1, by omega⟩
    simp only [laws_heldSlotS.l0]
    have e' : wrap64 (((i + 1 : Nat) : Int) + 1) = ((i + 1 : Nat) : Int) + 1 := by rw [wrap64_id (by omega) (by omega)]
    rw [if_pos (by omega), if_pos (by omega), if_pos (hy i (by omega)), wrapS i (by omega), show (i : Int) + 1 = ((i + 1 : Nat) : Int) by omega, e']
    exact ih (i + 1) k (by omega) (by omega)
theorem exact_end (x0 : List S61) (hl : x0.length ≤ 1048576) (a b : Int) (xs : Slots) (c : Int) (ok : Bool) (hxs : xs.length ≤ 1048576) (himpl : impl_LayoutOf.f (x0.map conv) = some (a, b, xs, c, ok)) (k : Nat) (hk : x0.length + xs.length + 5 < k) : laws_FnExactLayoutOf.j0 k x0 ok (x0.map conv) ok false a b xs c a b xs c = some true := by
  obtain ⟨k, rfl⟩ : ∃ m, k = m + 3 := ⟨k - 3, by omega⟩
  have h2 : (x0.map conv).length ≤ 1048576 := by simpa using hl
  have h3 : (x0.map conv).length = x0.length := List.length_map _
  obtain ⟨r, hr, hr0⟩ := markF_l0 (x0.map conv).length 0 (k + 2) (x0.map conv) 1 (by omega) (by omega) (by omega) (by omega) (by omega)
  have hr' : laws_markFieldS.f (k + 2) (x0.map conv) 1 = some r := hr
  obtain ⟨y, hy, hyl, hyv⟩ := markS_l0 xs.length 0 (k + 1) xs (by omega) (by omega) hxs (fun j hj => by omega)
  have hy' : laws_markLayout.f (k + 1) a b xs c 1 = some ((xs.length : Int) + 1, y) := by
    unfold laws_markLayout.f laws_markSlotS.f
    have hy2 : laws_markSlotS.l0 (k + 1) xs 1 0 = some ((xs.length : Int) + 1, y) := hy
    rw [hy2]
    rfl
  have hheld : ∀ q : Nat, y.length < q → laws_heldLayout.f q a b y c 1 = some ((y.length : Int) + 1) := fun q hq => by
    unfold laws_heldLayout.f laws_heldSlotS.f
    have := held_l0 y (by omega) (fun j hj => hyv j (by omega)) y.length 0 q (by omega) hq
    have h4 : laws_heldSlotS.l0 q y 1 0 = some ((y.length : Int) + 1) := this
    rw [h4, Option.bind_some, if_neg (by omega)]
  simp only [laws_FnExactLayoutOf.j0, Bool.false_eq_true, if_false]
  rw [to_f x0 hl (k + 2) (by omega), Option.bind_some, eq_f _ h2 (k + 2) (by omega), Option.bind_some, if_pos rfl, hr', Option.bind_some, if_neg (by omega), eqLayout_f _ _ _ _ hxs (k + 2) (by omega), Option.bind_some, if_pos rfl, bne_self_eq_false]
  simp only [laws_FnExactLayoutOf.j1, Bool.false_eq_true, if_false]
  rw [hy', Option.bind_some]
  show ((laws_heldLayout.f (k + 1) a b y c 1).bind fun t509 => (if t509 < 0 then (some false) else (if t509 = (xs.length : Int) + 1 then ((laws_toFieldS.f (k + 1) x0).bind fun t510 => ((impl_LayoutOf.f t510).bind fun bt513 => ((laws_eqLayout.f (k + 1) bt513.1 bt513.2.1 bt513.2.2.1 bt513.2.2.2.1 a b xs c).bind fun t521 => (if t521 = true then (laws_FnExactLayoutOf.j2 (k + 1) ((xs.length : Int) + 1) (bt513.2.2.2.2 != ok) a b y c) else (laws_FnExactLayoutOf.j2 (k + 1) ((xs.length : Int) + 1) true a b y c))))) else (some false)))) = some true
  rw [hheld (k + 1) (by omega), Option.bind_some, if_neg (by omega), if_pos (by rw [hyl]), to_f x0 hl (k + 1) (by omega), Option.bind_some, himpl, Option.bind_some]
  show ((laws_eqLayout.f (k + 1) a b xs c a b xs c).bind fun t521 => (if t521 = true then (laws_FnExactLayoutOf.j2 (k + 1) ((xs.length : Int) + 1) (ok != ok) a b y c) else (laws_FnExactLayoutOf.j2 (k + 1) ((xs.length : Int) + 1) true a b y c))) = some true
  rw [eqLayout_f _ _ _ _ hxs (k + 1) (by omega), Option.bind_some, if_pos rfl, bne_self_eq_false]
  simp only [laws_FnExactLayoutOf.j2, Bool.false_eq_true, if_false]
  rw [hheld k (by omega), Option.bind_some, if_neg (by omega), if_pos (by rw [hyl])]
theorem FnExactLayoutOf (l : List S61) (hl : l.length ≤ maxLen) : ∃ k, laws_FnExactLayoutOf.f k l = some true := by
  obtain ⟨k, hk⟩ : ∃ k : Nat, l.length + l.length + 20 < k := ⟨l.length + l.length + 21, by omega⟩
  refine ⟨k, ?_⟩
  unfold laws_FnExactLayoutOf.f
  obtain ⟨r, hr, hp⟩ := sz_f l hl
  rw [hr, Option.bind_some]
  by_cases h0 : r < 0
  · rw [if_pos h0]
  · have h1 := hp (by omega)
    have h2 : (l.map conv).length ≤ 1048576 := by simpa using h1
    have h3 : (l.map conv).length = l.length := List.length_map _
    rw [if_neg h0, to_f l h1 k (by omega), Option.bind_some, specOf_f _ h2 k (by omega)]
    obtain ⟨a, b, xs, c, ok, himpl, hxs, hlen⟩ : ∃ a b xs c ok, impl_LayoutOf.f (l.map conv) = some (a, b, xs, c, ok) ∧ xs.length ≤ 1048576 ∧ xs.length ≤ l.length := by
      by_cases hok : okF (l.map conv) = true
      · exact ⟨_, _, _, _, _, implOf_ok hok, by rw [slotsOf_length]; omega, by rw [slotsOf_length]; omega⟩
      · exact ⟨_, _, _, _, _, implOf_no (by simpa using hok), by simp, by simp⟩
    rw [himpl, Option.bind_some]
    show ((some (l.map conv)).bind fun t488 => ((impl_LayoutOf.f t488).bind fun bt491 => ((laws_eqLayout.f k bt491.1 bt491.2.1 bt491.2.2.1 bt491.2.2.2.1 a b xs c).bind fun t499 => (if t499 = true then (laws_FnExactLayoutOf.j0 k l ok t488 bt491.2.2.2.2 (bt491.2.2.2.2 != ok) a b xs c bt491.1 bt491.2.1 bt491.2.2.1 bt491.2.2.2.1) else (laws_FnExactLayoutOf.j0 k l ok t488 bt491.2.2.2.2 true a b xs c bt491.1 bt491.2.1 bt491.2.2.1 bt491.2.2.2.1))))) = some true
    rw [Option.bind_some, himpl, Option.bind_some]
    show ((laws_eqLayout.f k a b xs c a b xs c).bind fun t499 => (if t499 = true then (laws_FnExactLayoutOf.j0 k l ok (l.map conv) ok (ok != ok) a b xs c a b xs c) else (laws_FnExactLayoutOf.j0 k l ok (l.map conv) ok true a b xs c a b xs c))) = some true
    rw [eqLayout_f _ _ _ _ hxs k (by omega), Option.bind_some, if_pos rfl, bne_self_eq_false]
    exact exact_end l h1 a b xs c ok hxs himpl k (by omega)
end Go.Proofs.YtjjcepnadjociaaDoor.Pure
