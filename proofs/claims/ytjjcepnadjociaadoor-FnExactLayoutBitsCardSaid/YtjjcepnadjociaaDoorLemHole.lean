/- The reference's search for a hole, in plain terms, and that it is the other's. -/
import Derived.Test.YtjjcepnadjociaaDoorLemPlan
namespace Go.Proofs.YtjjcepnadjociaaDoor.Lem
set_option linter.unusedVariables false
open Go Go.RowKit
def holeR (h : Holes) (s : Nat) : Nat → Option (Int × Holes)
  | 0 => none
  | d + 1 => match h s with
    | some o => some (o, hset h s none)
    | none => match holeR h (s + 1) d with
      | some r => some (r.1, hset r.2 s (some (r.1 + 2 ^ s)))
      | none => none
theorem findF_holeR (words : Int) (h : Holes) (s : Nat) : ∀ (d t : Nat), s ≤ t → findF words h s t d = match holeR h t d with
    | some r => (r.1, words, halve r.2 r.1 s (t - s))
    | none => (64 * words, words + 1, fillUp h (64 * words) s (6 - s))
  | 0, t, _ => rfl
  | d + 1, t, hst => by
    unfold findF holeR
    cases ht : h t with
    | some o => rfl
    | none =>
      simp only
      rw [findF_holeR words h s d (t + 1) (by omega)]
      cases hr : holeR h (t + 1) d with
      | none => rfl
      | some r =>
        simp only
        rw [show t + 1 - s = (t - s) + 1 by omega]
        simp only [halve]
        rw [show s + (t - s) = t by omega]
theorem findV_holeR (words : Int) (h : Holes) (s : Nat) (hs : s ≤ 6) : findV words h s = match holeR h s (6 - s) with
    | some r => (r.1, words, r.2)
    | none => (64 * words, words + 1, fillUp h (64 * words) s (6 - s)) := by
  unfold findV
  by_cases h6 : 6 ≤ s
  · rw [if_pos h6]
    have e : s = 6 := by omega
    subst e
    rfl
  · rw [if_neg h6, findF_holeR words h s (6 - s) s (Nat.le_refl _)]
    cases holeR h s (6 - s) with
    | none => rfl
    | some r => simp only [Nat.sub_self, halve]
/-- How the reference holds a hole: its number in its own size; none is 0. -/
def hcell (h : Holes) (i : Nat) : Int := match h i with
  | some v => v / 2 ^ i
  | none => 0
/-- Holes that lie well: no bound on words. -/
def HJ (h : Holes) : Prop := ∀ s, s ≤ 5 → ∀ v, h s = some v → 2 ^ s ≤ v ∧ v ≤ 100000 ∧ (2 : Int) ^ s ∣ v
theorem hcell_none {h : Holes} {i : Nat} (e : h i = none) : hcell h i = 0 := by unfold hcell; rw [e]
theorem hcell_some {h : Holes} {i : Nat} {v : Int} (e : h i = some v) : hcell h i = v / 2 ^ i := by unfold hcell; rw [e]
theorem div_pos2 {v : Int} {s : Nat} (h1 : 2 ^ s ≤ v) (hd : (2 : Int) ^ s ∣ v) : 1 ≤ v / 2 ^ s := by
  have hp := p2pos s
  exact Int.le_ediv_of_mul_le (by omega) (by omega)
def hval (v : Option Int) (u : Nat) : Int := match v with
  | some x => x / 2 ^ u
  | none => 0
theorem hcell_set (h : Holes) (u : Nat) (v : Option Int) (i : Nat) : hcell (hset h u v) i = if i = u then hval v u else hcell h i := by
  unfold hcell hset hval
  by_cases e : i = u
  · subst e
    rw [if_pos rfl, if_pos rfl]
  · rw [if_neg e, if_neg e]
theorem two_div {v : Int} {s : Nat} (hd : (2 : Int) ^ (s + 1) ∣ v) : v / 2 ^ s = 2 * (v / 2 ^ (s + 1)) ∧ (v + 2 ^ s) / 2 ^ s = 2 * (v / 2 ^ (s + 1)) + 1 := by
  obtain ⟨q, rfl⟩ := hd
  have hp := p2pos s
  have h1 : (2 : Int) ^ (s + 1) * q / 2 ^ (s + 1) = q := Int.mul_ediv_cancel_left _ (by have := p2pos (s + 1); omega)
  have h2 : (2 : Int) ^ (s + 1) * q = 2 ^ s * (2 * q) := by rw [Int.pow_succ, Int.mul_assoc]
  rw [h1, h2]
  refine ⟨Int.mul_ediv_cancel_left _ (by omega), ?_⟩
  rw [Int.add_ediv_of_dvd_right (Int.dvd_refl _), Int.mul_ediv_cancel_left _ (by omega), Int.ediv_self (by omega)]
/-- What the search gives: a place that fits its size, at most as great as the hole. -/
theorem holeR_fit {h : Holes} (H : HJ h) : ∀ (d s : Nat) (r : Int × Holes), s + d = 6 → holeR h s d = some r → 0 ≤ r.1 ∧ r.1 ≤ 100000 ∧ (2 : Int) ^ s ∣ r.1
  | 0, s, r, _, e => by simp [holeR] at e
  | d + 1, s, r, hs, e => by
    unfold holeR at e
    cases ho : h s with
    | some o =>
      rw [ho] at e
      injection e with e
      subst e
      obtain ⟨a, b, c⟩ := H s (by omega) o ho
      have := p2pos s
      exact ⟨by show 0 ≤ o; omega, b, c⟩
    | none =>
      rw [ho] at e
      simp only at e
      cases hr : holeR h (s + 1) d with
      | none => rw [hr] at e; cases e
      | some r2 =>
        rw [hr] at e
        injection e with e
        subst e
        obtain ⟨a, b, c⟩ := holeR_fit H d (s + 1) r2 (by omega) hr
        exact ⟨a, b, Int.dvd_trans (p2dvd (by omega)) c⟩
/-- The six cells. -/
def hcells (h : Holes) : List Int := (List.range 6).map (hcell h)
end Go.Proofs.YtjjcepnadjociaaDoor.Lem
