/- Where fields stand: blocks that do not meet. -/
import Derived.Test.YtjjcepnadjociaaDoorLemHole
namespace Go.Proofs.YtjjcepnadjociaaDoor.Lem
set_option linter.unusedVariables false
open Go Go.RowKit
/-- Two blocks of bits that do not meet. -/
def Disj (a : Int × Nat) (b : Int × Nat) : Prop := a.1 + 2 ^ a.2 ≤ b.1 ∨ b.1 + 2 ^ b.2 ≤ a.1
theorem Disj.symm {a b : Int × Nat} (h : Disj a b) : Disj b a := Or.symm h
theorem Disj.sub {a b : Int × Nat} {c : Int × Nat} (h : Disj a b) (h1 : b.1 ≤ c.1) (h2 : c.1 + 2 ^ c.2 ≤ b.1 + 2 ^ b.2) : Disj a c := by
  unfold Disj at *
  omega
/-- Holes that meet neither each other nor the blocks B. -/
structure GH (W : Int) (B : Int × Nat → Prop) (h : Holes) : Prop where
  hi : HI W h
  hB : ∀ b, B b → ∀ s, s ≤ 5 → ∀ v, h s = some v → Disj b (v, s)
  hH : ∀ s t, s ≤ 5 → t ≤ 5 → s ≠ t → ∀ v u, h s = some v → h t = some u → Disj (v, s) (u, t)
theorem HI.some_ {W : Int} {h : Holes} (H : HI W h) (u : Nat) (v : Int) (h0 : 2 ^ u ≤ v) (h1 : v + 2 ^ u ≤ 64 * W) (hd : (2 : Int) ^ u ∣ v) : HI W (hset h u (some v)) := fun s hs x hx => by
  unfold hset at hx
  split at hx
  · rename_i e
    subst e
    injection hx with hx
    subst hx
    exact ⟨h0, h1, hd⟩
  · exact H s hs x hx
theorem hset_some {h : Holes} {u s : Nat} {v : Option Int} {x : Int} (e : hset h u v s = some x) : (s = u ∧ v = some x) ∨ (s ≠ u ∧ h s = some x) := by
  unfold hset at e
  split at e
  · exact .inl ⟨by assumption, e⟩
  · exact .inr ⟨by assumption, e⟩
theorem GH.none_ {W : Int} {B : Int × Nat → Prop} {h : Holes} (H : GH W B h) (u : Nat) : GH W B (hset h u none) := by
  refine ⟨H.hi.none_ u, fun b hb s hs v e => ?_, fun s t hs ht hst v x e1 e2 => ?_⟩
  · rcases hset_some e with ⟨_, e⟩ | ⟨_, e⟩
    · cases e
    · exact H.hB b hb s hs v e
  · rcases hset_some e1 with ⟨_, e⟩ | ⟨_, e⟩
    · cases e
    · rcases hset_some e2 with ⟨_, e'⟩ | ⟨_, e'⟩
      · cases e'
      · exact H.hH s t hs ht hst v x e e'
theorem GH.put {W : Int} {B : Int × Nat → Prop} {h : Holes} (H : GH W B h) (u : Nat) (v : Int) (h0 : 2 ^ u ≤ v) (h1 : v + 2 ^ u ≤ 64 * W) (hd : (2 : Int) ^ u ∣ v) (hB : ∀ b, B b → Disj b (v, u)) (hh : ∀ s, s ≤ 5 → s ≠ u → ∀ x, h s = some x → Disj (x, s) (v, u)) : GH W B (hset h u (some v)) := by
  refine ⟨H.hi.some_ u v h0 h1 hd, fun b hb s hs x e => ?_, fun s t hs ht hst x y e1 e2 => ?_⟩
  · rcases hset_some e with ⟨rfl, e'⟩ | ⟨_, e'⟩
    · injection e' with e'
      subst e'
      exact hB b hb
    · exact H.hB b hb s hs x e'
  · rcases hset_some e1 with ⟨rfl, e⟩ | ⟨n1, e⟩
    · injection e with e
      subst e
      rcases hset_some e2 with ⟨e', _⟩ | ⟨n2, e'⟩
      · exact absurd e'.symm hst
      · exact (hh t ht n2 y e').symm
    · rcases hset_some e2 with ⟨rfl, e'⟩ | ⟨n2, e'⟩
      · injection e' with e'
        subst e'
        exact hh s hs hst x e
      · exact H.hH s t hs ht hst x y e e'
/-- The blocks and one more. -/
def More (B : Int × Nat → Prop) (c : Int × Nat) : Int × Nat → Prop := fun b => B b ∨ b = c
/-- What taking a hole gives. -/
structure Took (W : Int) (B : Int × Nat → Prop) (r : Int × Holes) (s : Nat) : Prop where
  gh : GH W (More B (r.1, s)) r.2
  low : 0 ≤ r.1
  high : r.1 + 2 ^ s ≤ 64 * W
  dvd : (2 : Int) ^ s ∣ r.1
  new : ∀ b, B b → Disj b (r.1, s)
theorem GH.more {W : Int} {B : Int × Nat → Prop} {h : Holes} (H : GH W B h) (c : Int × Nat) (hc : ∀ s, s ≤ 5 → ∀ v, h s = some v → Disj c (v, s)) : GH W (More B c) h :=
  ⟨H.hi, fun b hb s hs v e => by
    rcases hb with hb | rfl
    · exact H.hB b hb s hs v e
    · exact hc s hs v e, H.hH⟩
theorem GH.less {W : Int} {B B' : Int × Nat → Prop} {h : Holes} (H : GH W B h) (hB : ∀ b, B' b → B b) : GH W B' h := ⟨H.hi, fun b hb => H.hB b (hB b hb), H.hH⟩
theorem holeR_took {W : Int} {B : Int × Nat → Prop} {h : Holes} (H : GH W B h) : ∀ (d s : Nat) (r : Int × Holes), s + d = 6 → holeR h s d = some r → Took W B r s
  | 0, s, r, _, e => by simp [holeR] at e
  | d + 1, s, r, hs, e => by
    unfold holeR at e
    cases ho : h s with
    | some o =>
      rw [ho] at e
      injection e with e
      subst e
      obtain ⟨a, b, c⟩ := H.hi s (by omega) o ho
      have hp := p2pos s
      refine ⟨(H.none_ s).more _ (fun t ht v e => ?_), by show 0 ≤ o; omega, b, c, fun q hq => H.hB q hq s (by omega) o ho⟩
      rcases hset_some e with ⟨_, e⟩ | ⟨n, e⟩
      · cases e
      · exact (H.hH t s ht (by omega) n v o e ho).symm
    | none =>
      rw [ho] at e
      simp only at e
      cases hr : holeR h (s + 1) d with
      | none => rw [hr] at e; cases e
      | some r2 =>
        rw [hr] at e
        injection e with e
        subst e
        obtain ⟨g, l, hh, dv, nw⟩ := holeR_took H d (s + 1) r2 (by omega) hr
        have hp := p2pos s
        rw [Int.pow_succ] at hh
        have e2 : (2 : Int) ^ (s + 1) = 2 ^ s + 2 ^ s := by rw [Int.pow_succ]; omega
        have d0 : (2 : Int) ^ s ∣ r2.1 := Int.dvd_trans (p2dvd (by omega)) dv
        have g1 : GH W B (hset r2.2 s (some (r2.1 + 2 ^ s))) := (g.less (fun b hb => .inl hb)).put s _ (by omega) (by omega) (Int.dvd_add d0 (Int.dvd_refl _)) (fun b hb => (nw b hb).sub (by show r2.1 ≤ r2.1 + 2 ^ s; omega) (by show r2.1 + 2 ^ s + 2 ^ s ≤ r2.1 + 2 ^ (s + 1); omega)) (fun t ht ne x e => (g.hB _ (.inr rfl) t ht x e).symm.sub (by show r2.1 ≤ r2.1 + 2 ^ s; omega) (by show r2.1 + 2 ^ s + 2 ^ s ≤ r2.1 + 2 ^ (s + 1); omega))
        refine ⟨g1.more _ (fun t ht v e => ?_), l, by show r2.1 + 2 ^ s ≤ 64 * W; omega, d0, fun b hb => (nw b hb).sub (Int.le_refl _) (by show r2.1 + 2 ^ s ≤ r2.1 + 2 ^ (s + 1); omega)⟩
        rcases hset_some e with ⟨rfl, e⟩ | ⟨n, e⟩
        · injection e with e
          subst e
          exact .inl (Int.le_refl _)
        · exact ((g.hB _ (.inr rfl) t ht v e).symm.sub (c := (r2.1, s)) (Int.le_refl _) (by show r2.1 + 2 ^ s ≤ r2.1 + 2 ^ (s + 1); omega)).symm
theorem holeR_none {h : Holes} : ∀ (d s : Nat), holeR h s d = none → ∀ t, s ≤ t → t < s + d → h t = none
  | 0, s, _, t, h1, h2 => by omega
  | d + 1, s, e, t, h1, h2 => by
    unfold holeR at e
    cases ho : h s with
    | some o => rw [ho] at e; cases e
    | none =>
      rw [ho] at e
      simp only at e
      cases hr : holeR h (s + 1) d with
      | some r => rw [hr] at e; cases e
      | none =>
        by_cases hst : t = s
        · rw [hst, ho]
        · exact holeR_none d (s + 1) hr t (by omega) (by omega)
theorem holeR_below {h : Holes} : ∀ (d s : Nat) (r : Int × Holes), holeR h s d = some r → ∀ t, t < s → r.2 t = h t
  | 0, s, r, e, t, ht => by simp [holeR] at e
  | d + 1, s, r, e, t, ht => by
    unfold holeR at e
    cases ho : h s with
    | some o =>
      rw [ho] at e
      injection e with e
      subst e
      simp only [hset]
      rw [if_neg (by omega)]
    | none =>
      rw [ho] at e
      simp only at e
      cases hr : holeR h (s + 1) d with
      | none => rw [hr] at e; cases e
      | some r2 =>
        rw [hr] at e
        injection e with e
        subst e
        simp only [hset]
        rw [if_neg (by omega)]
        exact holeR_below d (s + 1) r2 hr t (by omega)
/-- A new word's holes. -/
theorem fillUp_gh {W : Int} {B : Int × Nat → Prop} (h0 : 0 ≤ W) : ∀ (d u : Nat) (h : Holes), u + d ≤ 6 → GH (W + 1) B h → (∀ b, B b → b.1 + 2 ^ b.2 ≤ 64 * W + 2 ^ u) → (∀ s, s ≤ 5 → ∀ v, h s = some v → v + 2 ^ s ≤ 64 * W + 2 ^ u) → GH (W + 1) B (fillUp h (64 * W) u d)
  | 0, u, h, _, H, _, _ => H
  | d + 1, u, h, hu, H, hB, hh => by
    have h1 := p2mono (a := u + 1) (b := 6) (by omega)
    have e6 : (2 : Int) ^ 6 = 64 := by decide
    have e2 : (2 : Int) ^ (u + 1) = 2 ^ u + 2 ^ u := by rw [Int.pow_succ]; omega
    have hp := p2pos u
    refine fillUp_gh h0 d (u + 1) _ (by omega) (H.put u (64 * W + 2 ^ u) (by omega) (by omega) (Int.dvd_add (Int.dvd_trans (p2dvd (a := u) (b := 6) (by omega)) ⟨W, rfl⟩) (Int.dvd_refl _)) (fun b hb => .inl (hB b hb)) (fun s hs _ x e => .inl (hh s hs x e))) (fun b hb => by have := hB b hb; omega) (fun s hs v e => ?_)
    rcases hset_some e with ⟨rfl, e⟩ | ⟨_, e⟩
    · injection e with e
      subst e
      omega
    · have := hh s hs v e
      omega
theorem GH.mono {W W' : Int} {B : Int × Nat → Prop} {h : Holes} (H : GH W B h) (hw : W ≤ W') : GH W' B h := ⟨H.hi.mono hw, H.hB, H.hH⟩
/-- What finding room gives. -/
theorem findV_took {W : Int} {B : Int × Nat → Prop} {h : Holes} (H : GH W B h) (h0 : 0 ≤ W) (hB : ∀ b, B b → b.1 + 2 ^ b.2 ≤ 64 * W) (s : Nat) (hs : s ≤ 6) :
    Took (findV W h s).2.1 B ((findV W h s).1, (findV W h s).2.2) s ∧ W ≤ (findV W h s).2.1 ∧ (findV W h s).2.1 ≤ W + 1 := by
  rw [findV_holeR W h s hs]
  cases hr : holeR h s (6 - s) with
  | some r => exact ⟨holeR_took H (6 - s) s r (by omega) hr, Int.le_refl _, by show W ≤ W + 1; omega⟩
  | none =>
    have h1 := p2mono (a := s) (b := 6) (by omega)
    have e6 : (2 : Int) ^ 6 = 64 := by decide
    have hp := p2pos s
    have g : GH (W + 1) (More B (64 * W, s)) h := (H.mono (by omega)).more _ (fun t ht v e => .inr (H.hi t ht v e).2.1)
    refine ⟨⟨fillUp_gh h0 (6 - s) s h (by omega) g (fun b hb => ?_) (fun t ht v e => by have := (H.hi t ht v e).2.1; omega), by show 0 ≤ 64 * W; omega, by show 64 * W + 2 ^ s ≤ 64 * (W + 1); omega, Int.dvd_trans (p2dvd (a := s) (b := 6) hs) ⟨W, rfl⟩, fun b hb => .inl (hB b hb)⟩, by show W ≤ W + 1; omega, by show W + 1 ≤ W + 1; omega⟩
    rcases hb with hb | rfl
    · have := hB b hb; omega
    · exact Int.le_refl _
/-! how much of the holes is left -/
def hsum (h : Holes) : Nat → Int
  | 0 => 0
  | n + 1 => hsum h n + (match h n with | some _ => 2 ^ n | none => 0)
theorem hsum_nonneg (h : Holes) : ∀ n, 0 ≤ hsum h n
  | 0 => Int.le_refl _
  | n + 1 => by
    have := hsum_nonneg h n
    have := p2pos n
    unfold hsum
    split <;> omega
theorem hsum_lt (h : Holes) : ∀ n, hsum h n < 2 ^ n
  | 0 => by show (0 : Int) < 2 ^ 0; decide
  | n + 1 => by
    have := hsum_lt h n
    have := p2pos n
    unfold hsum
    rw [Int.pow_succ]
    split <;> omega
theorem hsum_congr {h g : Holes} : ∀ n, (∀ t, t < n → h t = g t) → hsum h n = hsum g n
  | 0, _ => rfl
  | n + 1, e => by
    unfold hsum
    rw [hsum_congr n (fun t ht => e t (by omega)), e n (by omega)]
theorem hsum_set (h : Holes) (u : Nat) (v : Option Int) : ∀ n, hsum (hset h u v) n + (if u < n then (match h u with | some _ => (2 : Int) ^ u | none => 0) else 0) = hsum h n + (if u < n then (match v with | some _ => 2 ^ u | none => 0) else 0)
  | 0 => by simp [hsum]
  | n + 1 => by
    have ih := hsum_set h u v n
    by_cases e : u = n
    · subst e
      rw [if_neg (by omega), if_neg (by omega)] at ih
      rw [if_pos (by omega), if_pos (by omega)]
      simp only [hsum]
      have : hset h u v u = v := by simp [hset]
      rw [this]
      omega
    · have e2 : hset h u v n = h n := by simp [hset, Ne.symm e]
      simp only [hsum]
      rw [e2]
      by_cases hlt : u < n
      · rw [if_pos hlt, if_pos hlt] at ih
        rw [if_pos (by omega), if_pos (by omega)]
        omega
      · rw [if_neg hlt, if_neg hlt] at ih
        rw [if_neg (by omega), if_neg (by omega)]
        omega
theorem holeR_sum {h : Holes} : ∀ (d s : Nat) (r : Int × Holes), s + d = 6 → holeR h s d = some r → hsum r.2 6 + 2 ^ s = hsum h 6
  | 0, s, r, _, e => by simp [holeR] at e
  | d + 1, s, r, hs, e => by
    unfold holeR at e
    cases ho : h s with
    | some o =>
      rw [ho] at e
      injection e with e
      subst e
      have := hsum_set h s none 6
      rw [if_pos (by omega), if_pos (by omega), ho] at this
      simp only at this ⊢
      omega
    | none =>
      rw [ho] at e
      simp only at e
      cases hr : holeR h (s + 1) d with
      | none => rw [hr] at e; cases e
      | some r2 =>
        rw [hr] at e
        injection e with e
        subst e
        have ih := holeR_sum d (s + 1) r2 (by omega) hr
        have eb := holeR_below d (s + 1) r2 hr s (by omega)
        have := hsum_set r2.2 s (some (r2.1 + 2 ^ s)) 6
        rw [if_pos (by omega), if_pos (by omega), eb, ho] at this
        rw [Int.pow_succ] at ih
        simp only at this ⊢
        omega
theorem fillUp_sum (o : Int) : ∀ (d u : Nat) (h : Holes), u + d = 6 → (∀ t, u ≤ t → t < 6 → h t = none) → hsum (fillUp h o u d) 6 + 2 ^ u = hsum h 6 + 64
  | 0, u, h, hu, _ => by
    have : u = 6 := by omega
    subst this
    rfl
  | d + 1, u, h, hu, hn => by
    unfold fillUp
    have ih := fillUp_sum o d (u + 1) (hset h u (some (o + 2 ^ u))) (by omega) (fun t h1 h2 => by unfold hset; rw [if_neg (by omega)]; exact hn t (by omega) h2)
    have := hsum_set h u (some (o + 2 ^ u)) 6
    rw [if_pos (by omega), if_pos (by omega), hn u (Nat.le_refl _) (by omega)] at this
    rw [Int.pow_succ] at ih
    simp only at this
    omega
theorem findV_sum (W : Int) (h : Holes) (s : Nat) (hs : s ≤ 6) : 64 * (findV W h s).2.1 - hsum (findV W h s).2.2 6 = 64 * W - hsum h 6 + 2 ^ s := by
  rw [findV_holeR W h s hs]
  cases hr : holeR h s (6 - s) with
  | some r =>
    have := holeR_sum (6 - s) s r (by omega) hr
    simp only
    omega
  | none =>
    have := fillUp_sum (64 * W) (6 - s) s h (by omega) (fun t h1 h2 => holeR_none (6 - s) s hr t h1 (by omega))
    simp only
    omega
end Go.Proofs.YtjjcepnadjociaaDoor.Lem
