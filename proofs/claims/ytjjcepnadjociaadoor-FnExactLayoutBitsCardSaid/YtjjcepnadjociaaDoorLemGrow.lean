/- How a layout grows, and what is left unused. -/
import Derived.Test.YtjjcepnadjociaaDoorLemPlaces
namespace Go.Proofs.YtjjcepnadjociaaDoor.Lem
set_option linter.unusedVariables false
open Go Go.RowKit
theorem layP_append : ∀ (l m : List (Int × Bool)) (p : PS), layP p (l ++ m) = ((layP p l).1 ++ (layP (layP p l).2 m).1, (layP (layP p l).2 m).2)
  | [], m, p => by simp [layP]
  | f :: l, m, p => by simp only [List.cons_append, layP, layP_append l m]
/-- What one field more does. -/
structure Step (p q : PS) (size : Int) (ch : Bool) : Prop where
  words : p.words ≤ q.words
  wordsUp : q.words ≤ p.words + (if size = 6 then 0 else 1) + (if ch = true ∧ p.choices + 1 = 2 then 1 else 0)
  ptrs : p.ptrs ≤ q.ptrs
  ptrsUp : q.ptrs ≤ p.ptrs + (if size = 6 then 1 else 0)
  choices : q.choices = p.choices + (if ch = true then 1 else 0)
  tag : 2 ≤ p.choices → q.tag = p.tag
theorem findV_words {W : Int} {h : Holes} (s : Nat) (hs : s ≤ 6) : W ≤ (findV W h s).2.1 ∧ (findV W h s).2.1 ≤ W + 1 := by
  rw [findV_holeR W h s hs]
  split
  · exact ⟨Int.le_refl _, by show W ≤ W + 1; omega⟩
  · exact ⟨by show W ≤ W + 1; omega, Int.le_refl _⟩
theorem tagP_words (p : PS) : p.words ≤ (tagP p).words ∧ (tagP p).words ≤ p.words + (if p.choices + 1 = 2 then 1 else 0) ∧ (2 ≤ p.choices → (tagP p).tag = p.tag) := by
  unfold tagP
  split
  · obtain ⟨a, b⟩ := findV_words (W := p.words) (h := p.h) 4 (by decide)
    exact ⟨a, b, fun h => by omega⟩
  · exact ⟨Int.le_refl _, by show p.words ≤ p.words + 0; omega, fun _ => rfl⟩
theorem put_step (p : PS) (size : Int) (ch : Bool) : Step p (putP p size ch).2 size ch := by
  have fw : ∀ q : PS, q.words ≤ (findP q (scl size)).2.words ∧ (findP q (scl size)).2.words ≤ q.words + 1 := fun q => findV_words (scl size) (scl_le size)
  cases ch with
  | false =>
    by_cases h6 : size = 6
    · have e : putP p size false = (p.ptrs, { p with ptrs := p.ptrs + 1 }) := by unfold putP; rw [if_neg (by decide), if_pos h6]
      rw [e]
      exact ⟨Int.le_refl _, by rw [if_pos h6]; simp, by show p.ptrs ≤ p.ptrs + 1; omega, by rw [if_pos h6]; exact Int.le_refl _, by simp, fun _ => rfl⟩
    · have e : putP p size false = ((findP p (scl size)).1 / 2 ^ scl size, (findP p (scl size)).2) := by unfold putP; rw [if_neg (by decide), if_neg h6]
      rw [e]
      obtain ⟨a, b⟩ := fw p
      exact ⟨a, by rw [if_neg h6]; simpa using b, Int.le_refl _, by rw [if_neg h6]; show p.ptrs ≤ p.ptrs + 0; omega, by simp [findP], fun _ => rfl⟩
  | true =>
    obtain ⟨e1, e2, e3, e4⟩ := tagP_eq p
    obtain ⟨t1, t2, t3⟩ := tagP_words p
    have t2' : (tagP p).words ≤ p.words + (if (true = true ∧ p.choices + 1 = 2) then 1 else 0) := by simpa using t2
    by_cases h6 : size = 6
    · have e : putP p size true = pointP (tagP p) := by unfold putP; rw [if_pos rfl, if_pos h6]; unfold choiceP; rw [if_pos h6]
      rw [e]
      unfold pointP
      split
      · exact ⟨t1, by rw [if_pos h6]; show (tagP p).words ≤ _; omega, by show p.ptrs ≤ (tagP p).ptrs + 1; omega, by rw [if_pos h6]; show (tagP p).ptrs + 1 ≤ _; omega, by rw [if_pos rfl]; exact e4, t3⟩
      · exact ⟨t1, by rw [if_pos h6]; show (tagP p).words ≤ _; omega, by show p.ptrs ≤ (tagP p).ptrs; omega, by rw [if_pos h6]; show (tagP p).ptrs ≤ _; omega, by rw [if_pos rfl]; exact e4, t3⟩
    · have e : putP p size true = ((roomP (tagP p) (scl size)).1 / 2 ^ scl size, (roomP (tagP p) (scl size)).2) := by unfold putP; rw [if_pos rfl, if_neg h6]; unfold choiceP; rw [if_neg h6]
      rw [e]
      unfold roomP
      split
      · exact ⟨t1, by rw [if_neg h6]; show (tagP p).words ≤ _; omega, by show p.ptrs ≤ (tagP p).ptrs; omega, by rw [if_neg h6]; show (tagP p).ptrs ≤ _; omega, by rw [if_pos rfl]; exact e4, t3⟩
      · obtain ⟨a, b⟩ := fw (tagP p)
        exact ⟨by show p.words ≤ (findP (tagP p) (scl size)).2.words; omega, by rw [if_neg h6]; show (findP (tagP p) (scl size)).2.words ≤ _; omega, by show p.ptrs ≤ (tagP p).ptrs; omega, by rw [if_neg h6]; show (tagP p).ptrs ≤ _; omega, by rw [if_pos rfl]; exact e4, t3⟩
theorem lay_grows : ∀ (l : List (Int × Bool)) (p : PS), p.words ≤ (layP p l).2.words ∧ p.ptrs ≤ (layP p l).2.ptrs ∧ (2 ≤ p.choices → (layP p l).2.tag = p.tag)
  | [], p => ⟨Int.le_refl _, Int.le_refl _, fun _ => rfl⟩
  | f :: l, p => by
    have S := put_step p f.1 f.2
    obtain ⟨a, b, c⟩ := lay_grows l (putP p f.1 f.2).2
    have h1 := S.words
    have h2 := S.ptrs
    refine ⟨by show p.words ≤ (layP (putP p f.1 f.2).2 l).2.words; omega, by show p.ptrs ≤ (layP (putP p f.1 f.2).2 l).2.ptrs; omega, fun h => ?_⟩
    have h3 := S.choices
    exact (c (by rw [h3]; split <;> omega)).trans (S.tag h)
def nChoice : List (Int × Bool) → Int
  | [] => 0
  | f :: l => (if f.2 = true then 1 else 0) + nChoice l
def nPoint : List (Int × Bool) → Int
  | [] => 0
  | f :: l => (if f.1 = 6 then 1 else 0) + nPoint l
theorem nChoice_cons (f : Int × Bool) (l : List (Int × Bool)) : nChoice (f :: l) = (if f.2 = true then 1 else 0) + nChoice l := rfl
theorem nPoint_cons (f : Int × Bool) (l : List (Int × Bool)) : nPoint (f :: l) = (if f.1 = 6 then 1 else 0) + nPoint l := rfl
theorem nChoice_nonneg (l : List (Int × Bool)) : 0 ≤ nChoice l := by
  induction l with
  | nil => exact Int.le_refl _
  | cons f l ih =>
    rw [nChoice_cons]
    by_cases h : f.2 = true
    · rw [if_pos h]; omega
    · rw [if_neg h]; omega
theorem lay_choices : ∀ (l : List (Int × Bool)) (p : PS), (layP p l).2.choices = p.choices + nChoice l
  | [], p => by simp [layP, nChoice]
  | f :: l, p => by
    have S := (put_step p f.1 f.2).choices
    have ih := lay_choices l (putP p f.1 f.2).2
    show (layP (putP p f.1 f.2).2 l).2.choices = _
    rw [ih, S, nChoice_cons]
    omega
theorem lay_words : ∀ (l : List (Int × Bool)) (p : PS), 0 ≤ p.choices → (∃ t : Int, (t = 0 ∨ (t = 1 ∧ p.choices < 2 ∧ 2 ≤ p.choices + nChoice l)) ∧ (layP p l).2.words ≤ p.words + (l.length - nPoint l) + t) ∧ (layP p l).2.ptrs ≤ p.ptrs + nPoint l
  | [], p, h0 => ⟨⟨0, .inl rfl, by simp [layP, nPoint]⟩, by simp [layP, nPoint]⟩
  | f :: l, p, h0 => by
    have S := put_step p f.1 f.2
    have s1 := S.choices
    have s2 := S.wordsUp
    have s3 := S.ptrsUp
    have hn := nChoice_nonneg l
    obtain ⟨⟨t, ht, a⟩, b⟩ := lay_words l (putP p f.1 f.2).2 (by rw [s1]; split <;> omega)
    have e1 : (layP p (f :: l)).2 = (layP (putP p f.1 f.2).2 l).2 := rfl
    rw [e1, nPoint_cons, nChoice_cons, List.length_cons]
    generalize (layP (putP p f.1 f.2).2 l).2 = z at *
    generalize (putP p f.1 f.2).2 = y at *
    generalize nPoint l = m at *
    generalize nChoice l = n at *
    refine ⟨?_, by split at s3 <;> omega⟩
    by_cases hc : f.2 = true
    · rw [if_pos hc] at s1 ⊢
      by_cases h1 : p.choices + 1 = 2
      · rw [if_pos (c := f.2 = true ∧ p.choices + 1 = 2) ⟨hc, h1⟩] at s2
        exact ⟨1, .inr ⟨rfl, by omega, by omega⟩, by split at s2 <;> omega⟩
      · rw [if_neg (c := f.2 = true ∧ p.choices + 1 = 2) (fun h => h1 h.2)] at s2
        exact ⟨t, by omega, by split at s2 <;> omega⟩
    · rw [if_neg hc] at s1 ⊢
      rw [if_neg (c := f.2 = true ∧ p.choices + 1 = 2) (fun h => hc h.1)] at s2
      exact ⟨t, by omega, by split at s2 <;> omega⟩
/-- The bits of fields that are no choices. -/
def nBits : List (Int × Bool) → Int
  | [] => 0
  | f :: l => (if f.1 = 6 then 0 else 2 ^ scl f.1) + nBits l
theorem lay_waste : ∀ (l : List (Int × Bool)) (p : PS), (∀ f ∈ l, f.2 = false) → 64 * (layP p l).2.words - hsum (layP p l).2.h 6 = 64 * p.words - hsum p.h 6 + nBits l ∧ (layP p l).2.ptrs = p.ptrs + nPoint l ∧ (layP p l).2.tag = p.tag
  | [], p, _ => ⟨by simp [layP, nBits], by simp [layP, nPoint], rfl⟩
  | f :: l, p, h => by
    obtain ⟨size, ch⟩ := f
    have hc : ch = false := h _ List.mem_cons_self
    subst hc
    obtain ⟨a, b, c⟩ := lay_waste l (putP p size false).2 (fun g hg => h g (List.mem_cons_of_mem _ hg))
    show 64 * (layP (putP p size false).2 l).2.words - hsum (layP (putP p size false).2 l).2.h 6 = _ ∧ (layP (putP p size false).2 l).2.ptrs = _ ∧ (layP (putP p size false).2 l).2.tag = _
    rw [a, b, c]
    simp only [nBits, nPoint]
    by_cases h6 : size = 6
    · have e : putP p size false = (p.ptrs, { p with ptrs := p.ptrs + 1 }) := by unfold putP; rw [if_neg (by decide), if_pos h6]
      rw [e, if_pos h6, if_pos h6]
      exact ⟨by simp, by show p.ptrs + 1 + _ = _; omega, rfl⟩
    · have e : putP p size false = ((findP p (scl size)).1 / 2 ^ scl size, (findP p (scl size)).2) := by unfold putP; rw [if_neg (by decide), if_neg h6]
      rw [e, if_neg h6, if_neg h6]
      have hs := findV_sum p.words p.h (scl size) (scl_le size)
      exact ⟨by show 64 * (findV p.words p.h (scl size)).2.1 - hsum (findV p.words p.h (scl size)).2.2 6 + _ = _; rw [hs]; omega, by show p.ptrs + _ = _; omega, rfl⟩
theorem lay_same : ∀ s : Int, 1 ≤ s → s ≤ 6 → (layP PS.new (List.replicate 12 (s, false))).1 = [0, 1, 2, 3, 4, 5, 6, 7, 8, 9, 10, 11] ∧ (layP PS.new (List.replicate 12 (s, false))).2.tag = -1 := by
  intro s h1 h2
  rcases (by omega : s = 1 ∨ s = 2 ∨ s = 3 ∨ s = 4 ∨ s = 5 ∨ s = 6) with rfl | rfl | rfl | rfl | rfl | rfl <;> exact ⟨by decide +kernel, by decide +kernel⟩
end Go.Proofs.YtjjcepnadjociaaDoor.Lem
