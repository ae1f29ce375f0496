/- How fields are laid out, in plain terms; that blocks do not meet; how a layout grows, and what is left unused. -/
import Derived.Test.YtjeipkfeihahdaaGreatDoorV2
namespace Go.Proofs.YtjeipkfeihahdaaGreatDoor.Lem
set_option linter.unusedVariables false
open Go Go.RowKit
/-- The holes: at most one of each size 2^0 .. 2^5. -/
abbrev Holes := Nat → Option Int
def hset (h : Holes) (u : Nat) (v : Option Int) : Holes := fun x => if x = u then v else h x
/-- The rest of a hole of size 2^(s+d) at 'from', of which the first 2^s bits are taken. -/
def halve (h : Holes) (o : Int) (s : Nat) : Nat → Holes
 | 0 => h
 | d + 1 => halve (hset h (s + d) (some (o + 2 ^ (s + d)))) o s d
/-- A new word's rest, from size 2^u on. -/
def fillUp (h : Holes) (o : Int) (u : Nat) : Nat → Holes
 | 0 => h
 | d + 1 => fillUp (hset h u (some (o + 2 ^ u))) o (u + 1) d
/-- Where room of size 2^s is found, from size 2^t on: the place, the words, the holes. -/
def findF (words : Int) (h : Holes) (s t : Nat) : Nat → Int × Int × Holes
 | 0 => (64 * words, words + 1, fillUp h (64 * words) s (6 - s))
 | d + 1 => match h t with
  | some o => (o, words, halve (hset h t none) o s (t - s))
  | none => findF words h s (t + 1) d
def findV (words : Int) (h : Holes) (s : Nat) : Int × Int × Holes := if 6 ≤ s then (64 * words, words + 1, h) else findF words h s s (6 - s)
/-- A plan: rooms are told by place and by size's exponent. -/
structure PS where
 words : Int
 ptrs : Int
 tag : Int
 pointer : Int
 choices : Int
 rooms : List (Int × Nat)
 h : Holes
def PS.new : PS := ⟨0, 0, -1, -1, 0, [], fun _ => none⟩
def findP (p : PS) (s : Nat) : Int × PS := ((findV p.words p.h s).1, { p with words := (findV p.words p.h s).2.1, h := (findV p.words p.h s).2.2 })
def tagP (p : PS) : PS :=
 if p.choices + 1 = 2 then { (findP { p with choices := p.choices + 1 } 4).2 with tag := (findP { p with choices := p.choices + 1 } 4).1 / 16 } else { p with choices := p.choices + 1 }
def scl (size : Int) : Nat := if size = 1 then 0 else if size = 2 then 3 else if size = 3 then 4 else if size = 4 then 5 else 6
def firstRoom : List (Int × Nat) → Nat → Option (Int × Nat)
 | [], _ => none
 | r :: l, s => if s ≤ r.2 then some r else firstRoom l s
def roomP (q : PS) (s : Nat) : Int × PS := match firstRoom q.rooms s with
 | some r => (r.1, q)
 | none => ((findP q s).1, { (findP q s).2 with rooms := q.rooms ++ [((findP q s).1, s)] })
def pointP (q : PS) : Int × PS := if q.pointer < 0 then (q.ptrs, { q with pointer := q.ptrs, ptrs := q.ptrs + 1 }) else (q.pointer, q)
def choiceP (p : PS) (size : Int) : Int × PS := if size = 6 then pointP (tagP p) else roomP (tagP p) (scl size)
/-- Where a field stands, in its own size. -/
def putP (p : PS) (size : Int) (ch : Bool) : Int × PS :=
 if ch = true then (if size = 6 then choiceP p size else ((choiceP p size).1 / 2 ^ scl size, (choiceP p size).2))
 else if size = 6 then (p.ptrs, { p with ptrs := p.ptrs + 1 })
 else ((findP p (scl size)).1 / 2 ^ scl size, (findP p (scl size)).2)
def layP (p : PS) : List (Int × Bool) → List Int × PS
 | [] => ([], p)
 | f :: l => ((putP p f.1 f.2).1 :: (layP (putP p f.1 f.2).2 l).1, (layP (putP p f.1 f.2).2 l).2)
theorem layP_snoc (f : Int × Bool) : ∀ (l : List (Int × Bool)) (p : PS), layP p (l ++ [f]) = ((layP p l).1 ++ [(putP (layP p l).2 f.1 f.2).1], (putP (layP p l).2 f.1 f.2).2)
 | [], p => rfl
 | g :: l, p => by simp only [List.cons_append, layP, layP_snoc f l]
theorem layP_length : ∀ (l : List (Int × Bool)) (p : PS), (layP p l).1.length = l.length
 | [], _ => rfl
 | f :: l, p => by simp [layP, layP_length l]
/-! what holds of a plan -/
def HI (words : Int) (h : Holes) : Prop := ∀ s, s ≤ 5 → ∀ v, h s = some v → 2 ^ s ≤ v ∧ v + 2 ^ s ≤ 64 * words ∧ (2 : Int) ^ s ∣ v
theorem p2pos (s : Nat) : (1 : Int) ≤ 2 ^ s := by
 induction s with
 | zero => decide
 | succ n ih => rw [Int.pow_succ]; omega
theorem p2dvd {a b : Nat} (h : a ≤ b) : (2 : Int) ^ a ∣ 2 ^ b := by
 obtain ⟨d, rfl⟩ := Nat.exists_eq_add_of_le h
 exact ⟨2 ^ d, Int.pow_add 2 a d⟩
theorem p2mono {a b : Nat} (h : a ≤ b) : (2 : Int) ^ a ≤ 2 ^ b := by
 obtain ⟨d, rfl⟩ := Nat.exists_eq_add_of_le h
 rw [Int.pow_add]
 have h1 := p2pos a
 have h2 := p2pos d
 calc (2 : Int) ^ a = 2 ^ a * 1 := (Int.mul_one _).symm
  _ ≤ 2 ^ a * 2 ^ d := Int.mul_le_mul_of_nonneg_left h2 (by omega)
theorem HI.mono {words words' : Int} {h : Holes} (H : HI words h) (hw : words ≤ words') : HI words' h := fun s hs v hv => by
 obtain ⟨a, b, c⟩ := H s hs v hv
 exact ⟨a, by omega, c⟩
theorem HI.none_ {words : Int} {h : Holes} (H : HI words h) (u : Nat) : HI words (hset h u none) := fun s hs v hv => by
 unfold hset at hv
 split at hv
 ·cases hv
 ·exact H s hs v hv
theorem HI.put {words : Int} {h : Holes} (H : HI words h) (u : Nat) (o : Int) (h0 : 0 ≤ o) (h1 : o + 2 ^ (u + 1) ≤ 64 * words) (hd : (2 : Int) ^ u ∣ o) : HI words (hset h u (some (o + 2 ^ u))) := fun s hs v hv => by
 unfold hset at hv
 split at hv
 ·rename_i e
  subst e
  injection hv with hv
  subst hv
  rw [Int.pow_succ] at h1
  exact ⟨by omega, by omega, Int.dvd_add hd (Int.dvd_refl _)⟩
 ·exact H s hs v hv
theorem halve_HI {words o : Int} (s : Nat) : ∀ (d : Nat) (h : Holes), HI words h → 0 ≤ o → o + 2 ^ (s + d) ≤ 64 * words → (2 : Int) ^ (s + d) ∣ o → HI words (halve h o s d)
 | 0, h, H, _, _, _ => H
 | d + 1, h, H, h0, h1, hd => by
  have e : s + (d + 1) = (s + d) + 1 := rfl
  rw [e] at h1 hd
  have hp := p2pos (s + d)
  have hd' : (2 : Int) ^ (s + d) ∣ o := Int.dvd_trans (p2dvd (by omega)) hd
  exact halve_HI s d _ (H.put (s + d) o h0 h1 hd') h0 (by rw [Int.pow_succ] at h1; omega) hd'
theorem fillUp_HI {words w1 : Int} (h0 : 0 ≤ words) (hw : words + 1 = w1) : ∀ (d u : Nat) (h : Holes), u + d ≤ 6 → HI w1 h → HI w1 (fillUp h (64 * words) u d)
 | 0, u, h, _, H => H
 | d + 1, u, h, hu, H => by
  have h1 := p2mono (a := u + 1) (b := 6) (by omega)
  have e6 : (2 : Int) ^ 6 = 64 := by decide
  exact fillUp_HI h0 hw d (u + 1) _ (by omega) (H.put u (64 * words) (by omega) (by omega) (Int.dvd_trans (p2dvd (a := u) (b := 6) (by omega)) ⟨words, rfl⟩))
structure Found (words : Int) (h : Holes) (s : Nat) (r : Int × Int × Holes) : Prop where
 hi : HI r.2.1 r.2.2
 at0 : 0 ≤ r.1
 at1 : r.1 + 2 ^ s ≤ 64 * r.2.1
 dvd : (2 : Int) ^ s ∣ r.1
 grow : r.2.1 = words ∨ r.2.1 = words + 1
theorem findF_found {words : Int} {h : Holes} (H : HI words h) (h0 : 0 ≤ words) (s : Nat) (hs : s ≤ 5) : ∀ (d t : Nat), s ≤ t → t + d = 6 → Found words h s (findF words h s t d)
 | 0, t, _, _ => by
  have e6 : (2 : Int) ^ 6 = 64 := by decide
  have h1 := p2mono (a := s) (b := 6) (by omega)
  exact ⟨fillUp_HI h0 rfl _ _ _ (by omega) (H.mono (by show words ≤ words + 1; omega)), by show 0 ≤ 64 * words; omega, by show 64 * words + 2 ^ s ≤ 64 * (words + 1); omega, Int.dvd_trans (p2dvd (a := s) (b := 6) (by omega)) ⟨words, rfl⟩, .inr rfl⟩
 | d + 1, t, hst, ht => by
  unfold findF
  split
  ·rename_i o ho
   obtain ⟨a, b, c⟩ := H t (by omega) o ho
   have hp := p2pos t
   have h1 := p2mono (a := s) (b := t) (by omega)
   exact ⟨halve_HI s (t - s) _ (H.none_ t) (by omega) (by rw [show s + (t - s) = t by omega]; exact b) (by rw [show s + (t - s) = t by omega]; exact c), by show 0 ≤ o; omega, by show o + 2 ^ s ≤ 64 * words; omega, Int.dvd_trans (p2dvd hst) c, .inl rfl⟩
  ·exact findF_found H h0 s hs d (t + 1) (by omega) (by omega)
theorem findV_found {words : Int} {h : Holes} (H : HI words h) (h0 : 0 ≤ words) (s : Nat) (hs : s ≤ 6) : Found words h s (findV words h s) := by
 unfold findV
 split
 ·have e : s = 6 := by omega
  subst e
  exact ⟨H.mono (by show words ≤ words + 1; omega), by show 0 ≤ 64 * words; omega, by show 64 * words + 2 ^ 6 ≤ 64 * (words + 1); omega, ⟨words, rfl⟩, .inr rfl⟩
 ·exact findF_found H h0 s (by omega) _ s (Nat.le_refl _) (by omega)
/-- What holds of a plan of so many fields. -/
structure Inv (kw k : Nat) (p : PS) : Prop where
 hi : HI p.words p.h
 words : 0 ≤ p.words ∧ p.words ≤ kw
 ptrs : 0 ≤ p.ptrs ∧ p.ptrs ≤ k
 choices : 0 ≤ p.choices ∧ p.choices ≤ k
 point : -1 ≤ p.pointer ∧ p.pointer ≤ k
 many : p.rooms.length ≤ k
 rooms : ∀ r ∈ p.rooms, r.2 ≤ 6 ∧ 0 ≤ r.1 ∧ r.1 + 2 ^ r.2 ≤ 64 * p.words ∧ (2 : Int) ^ r.2 ∣ r.1
theorem Inv.new : Inv 0 0 PS.new := ⟨fun s hs v hv => by simp [PS.new] at hv, by decide, by decide, by decide, by decide, by simp [PS.new], fun r hr => by simp [PS.new] at hr⟩
theorem scl_le (x : Int) : scl x ≤ 6 := by
 unfold scl
 repeat' split
 all_goals omega
theorem firstRoom_mem {s : Nat} : ∀ {l : List (Int × Nat)} {r : Int × Nat}, firstRoom l s = some r → r ∈ l ∧ s ≤ r.2
 | [], r, h => by simp [firstRoom] at h
 | q :: l, r, h => by
  unfold firstRoom at h
  split at h
  ·injection h with h; subst h; exact ⟨by simp, by assumption⟩
  ·have := firstRoom_mem h; exact ⟨by simp [this.1], this.2⟩
theorem Inv.find {kw k : Nat} {p : PS} (H : Inv kw k p) (s : Nat) (hs : s ≤ 6) : Inv (kw + 1) k (findP p s).2 ∧ 0 ≤ (findP p s).1 ∧ (findP p s).1 + 2 ^ s ≤ 64 * (findP p s).2.words ∧ (2 : Int) ^ s ∣ (findP p s).1 := by
 have F := findV_found H.hi H.words.1 s hs
 have hw := H.words
 have hg := F.grow
 refine ⟨⟨F.hi, ?_, H.ptrs, H.choices, H.point, H.many, fun r hr => ?_⟩, F.at0, F.at1, F.dvd⟩
 ·show 0 ≤ (findV p.words p.h s).2.1 ∧ (findV p.words p.h s).2.1 ≤ _
  omega
 ·obtain ⟨a, b, c, d⟩ := H.rooms r hr
  refine ⟨a, b, ?_, d⟩
  show _ ≤ 64 * (findV p.words p.h s).2.1
  omega
theorem Inv.many_ {kw k k' : Nat} {p : PS} (H : Inv kw k p) (hk : k ≤ k') : Inv kw k' p :=
 ⟨H.hi, H.words, by have := H.ptrs; omega, by have := H.choices; omega, by have := H.point; omega, by have := H.many; omega, H.rooms⟩
theorem Inv.wide {kw kw' k : Nat} {p : PS} (H : Inv kw k p) (hk : kw ≤ kw') : Inv kw' k p :=
 ⟨H.hi, by have := H.words; omega, H.ptrs, H.choices, H.point, H.many, H.rooms⟩
theorem Inv.choose {kw k : Nat} {p : PS} (H : Inv kw k p) : Inv kw (k + 1) { p with choices := p.choices + 1 } :=
 ⟨H.hi, H.words, by have := H.ptrs; show 0 ≤ p.ptrs ∧ p.ptrs ≤ _; omega, by have := H.choices; show 0 ≤ p.choices + 1 ∧ p.choices + 1 ≤ _; omega, by have := H.point; show -1 ≤ p.pointer ∧ p.pointer ≤ _; omega, by have := H.many; show p.rooms.length ≤ _; omega, H.rooms⟩
theorem Inv.tag {kw k : Nat} {p : PS} (H : Inv kw k p) (t : Int) : Inv kw k { p with tag := t } := ⟨H.hi, H.words, H.ptrs, H.choices, H.point, H.many, H.rooms⟩
theorem tagP_eq (p : PS) : (tagP p).ptrs = p.ptrs ∧ (tagP p).pointer = p.pointer ∧ (tagP p).rooms = p.rooms ∧ (tagP p).choices = p.choices + 1 := by
 unfold tagP
 split
 ·exact ⟨rfl, rfl, rfl, rfl⟩
 ·exact ⟨rfl, rfl, rfl, rfl⟩
/-- Behind the tag: the numbers of pointers and rooms are still those of one field less. -/
theorem Inv.tagged {kw k : Nat} {p : PS} (H : Inv kw k p) : Inv (kw + 1) (k + 1) (tagP p) := by
 unfold tagP
 split
 ·exact (H.choose.find 4 (by decide)).1.tag _
 ·exact H.choose.wide (by omega)
theorem Inv.choice {kw k : Nat} {p : PS} (H : Inv kw k p) (size : Int) : Inv (kw + 2) (k + 1) (choiceP p size).2 ∧ 0 ≤ (choiceP p size).1 ∧ (size ≠ 6 → (2 : Int) ^ scl size ∣ (choiceP p size).1 ∧ (choiceP p size).1 + 2 ^ scl size ≤ 64 * (choiceP p size).2.words) := by
 have T := H.tagged
 obtain ⟨e1, e2, e3, e4⟩ := tagP_eq p
 unfold choiceP
 split
 ·rename_i h6
  have hp := H.ptrs
  have hq := H.point
  unfold pointP
  split
  ·refine ⟨⟨T.hi, (T.wide (by omega)).words, ?_, T.choices, ?_, T.many, T.rooms⟩, T.ptrs.1, fun h => absurd h6 h⟩
   ·show 0 ≤ (tagP p).ptrs + 1 ∧ (tagP p).ptrs + 1 ≤ _; omega
   ·show -1 ≤ (tagP p).ptrs ∧ (tagP p).ptrs ≤ _; omega
  ·rename_i h
   exact ⟨T.wide (by omega), by show 0 ≤ (tagP p).pointer; omega, fun h => absurd h6 h⟩
 ·unfold roomP
  split
  ·rename_i r hr
   obtain ⟨a, b⟩ := firstRoom_mem hr
   obtain ⟨c, d, e, f⟩ := T.rooms r a
   have hm := p2mono b
   exact ⟨T.wide (by omega), d, fun _ => ⟨Int.dvd_trans (p2dvd b) f, by show r.1 + 2 ^ scl size ≤ 64 * (tagP p).words; omega⟩⟩
  ·obtain ⟨F, f0, f1, fd⟩ := T.find (scl size) (scl_le size)
   have hm := H.many
   refine ⟨⟨F.hi, F.words, F.ptrs, F.choices, F.point, ?_, fun r hr => ?_⟩, f0, fun _ => ⟨fd, f1⟩⟩
   ·show ((tagP p).rooms ++ [_]).length ≤ _
    rw [e3, List.length_append]
    show p.rooms.length + 1 ≤ _
    omega
   ·rcases List.mem_append.mp hr with h | h
    ·exact F.rooms r h
    ·rcases List.mem_singleton.mp h with rfl
     exact ⟨scl_le size, f0, f1, fd⟩
theorem Inv.put {kw k : Nat} {p : PS} (H : Inv kw k p) (size : Int) (ch : Bool) : Inv (kw + 2) (k + 1) (putP p size ch).2 ∧ 0 ≤ (putP p size ch).1 := by
 have hp := p2pos (scl size)
 unfold putP
 split
 ·obtain ⟨a, b, c⟩ := H.choice size
  split
  ·exact ⟨a, b⟩
  ·exact ⟨a, Int.ediv_nonneg b (by omega)⟩
 ·split
  ·refine ⟨⟨H.hi, (H.wide (by omega)).words, ?_, (H.many_ (Nat.le_succ k)).choices, (H.many_ (Nat.le_succ k)).point, (H.many_ (Nat.le_succ k)).many, H.rooms⟩, H.ptrs.1⟩
   have := H.ptrs
   show 0 ≤ p.ptrs + 1 ∧ p.ptrs + 1 ≤ _
   omega
  ·obtain ⟨F, f0, f1, fd⟩ := H.find (scl size) (scl_le size)
   exact ⟨(F.wide (by omega)).many_ (by omega), Int.ediv_nonneg f0 (by omega)⟩
theorem Inv.lay : ∀ (l : List (Int × Bool)) {kw k : Nat} {p : PS}, Inv kw k p → Inv (kw + 2 * l.length) (k + l.length) (layP p l).2
 | [], kw, k, p, H => H
 | f :: l, kw, k, p, H => by
  have h := Inv.lay l (H.put f.1 f.2).1
  rw [show kw + 2 * (f :: l).length = kw + 2 + 2 * l.length by simp only [List.length_cons]; omega, show k + (f :: l).length = k + 1 + l.length by simp only [List.length_cons]; omega]
  exact h
end Go.Proofs.YtjeipkfeihahdaaGreatDoor.Lem
namespace Go.Proofs.YtjeipkfeihahdaaGreatDoor.Lem
set_option linter.unusedVariables false
open Go Go.RowKit
def holeR (h : Holes) (s : Nat) : Nat → Option (Int × Holes)
 | 0 => none
 | d + 1 => match h s with
  | some o => some (o, hset h s none)
  | none => match holeR h (s + 1) d with
   | some r => some (r.1, hset r.2 s (some (r.1 + 2 ^ s)))
   | none => none
theorem findF_holeR (words : Int) (h : Holes) (s : Nat) : ∀ (d t : Nat), s ≤ t → findF words h s t d = match holeR h t d with
  | some r => (r.1, words, halve r.2 r.1 s (t - s))
  | none => (64 * words, words + 1, fillUp h (64 * words) s (6 - s))
 | 0, t, _ => rfl
 | d + 1, t, hst => by
  unfold findF holeR
  cases ht : h t with
  | some o => rfl
  | none =>
   simp only
   rw [findF_holeR words h s d (t + 1) (by omega)]
   cases hr : holeR h (t + 1) d with
   | none => rfl
   | some r =>
    simp only
    rw [show t + 1 - s = (t - s) + 1 by omega]
    simp only [halve]
    rw [show s + (t - s) = t by omega]
theorem findV_holeR (words : Int) (h : Holes) (s : Nat) (hs : s ≤ 6) : findV words h s = match holeR h s (6 - s) with
  | some r => (r.1, words, r.2)
  | none => (64 * words, words + 1, fillUp h (64 * words) s (6 - s)) := by
 unfold findV
 by_cases h6 : 6 ≤ s
 ·rw [if_pos h6]
  have e : s = 6 := by omega
  subst e
  rfl
 ·rw [if_neg h6, findF_holeR words h s (6 - s) s (Nat.le_refl _)]
  cases holeR h s (6 - s) with
  | none => rfl
  | some r => simp only [Nat.sub_self, halve]
/-- How the reference holds a hole: its number in its own size; none is 0. -/
def hcell (h : Holes) (i : Nat) : Int := match h i with
 | some v => v / 2 ^ i
 | none => 0
/-- Holes that lie well: no bound on words. -/
def HJ (h : Holes) : Prop := ∀ s, s ≤ 5 → ∀ v, h s = some v → 2 ^ s ≤ v ∧ v ≤ 100000 ∧ (2 : Int) ^ s ∣ v
def hval (v : Option Int) (u : Nat) : Int := match v with
 | some x => x / 2 ^ u
 | none => 0
/-- The six cells. -/
def hcells (h : Holes) : List Int := (List.range 6).map (hcell h)
end Go.Proofs.YtjeipkfeihahdaaGreatDoor.Lem
namespace Go.Proofs.YtjeipkfeihahdaaGreatDoor.Lem
set_option linter.unusedVariables false
open Go Go.RowKit
/-- Two blocks of bits that do not meet. -/
def Disj (a : Int × Nat) (b : Int × Nat) : Prop := a.1 + 2 ^ a.2 ≤ b.1 ∨ b.1 + 2 ^ b.2 ≤ a.1
theorem Disj.symm {a b : Int × Nat} (h : Disj a b) : Disj b a := Or.symm h
theorem Disj.sub {a b : Int × Nat} {c : Int × Nat} (h : Disj a b) (h1 : b.1 ≤ c.1) (h2 : c.1 + 2 ^ c.2 ≤ b.1 + 2 ^ b.2) : Disj a c := by
 unfold Disj at *
 omega
/-- Holes that meet neither each other nor the blocks B. -/
structure GH (W : Int) (B : Int × Nat → Prop) (h : Holes) : Prop where
 hi : HI W h
 hB : ∀ b, B b → ∀ s, s ≤ 5 → ∀ v, h s = some v → Disj b (v, s)
 hH : ∀ s t, s ≤ 5 → t ≤ 5 → s ≠ t → ∀ v u, h s = some v → h t = some u → Disj (v, s) (u, t)
theorem HI.some_ {W : Int} {h : Holes} (H : HI W h) (u : Nat) (v : Int) (h0 : 2 ^ u ≤ v) (h1 : v + 2 ^ u ≤ 64 * W) (hd : (2 : Int) ^ u ∣ v) : HI W (hset h u (some v)) := fun s hs x hx => by
 unfold hset at hx
 split at hx
 ·rename_i e
  subst e
  injection hx with hx
  subst hx
  exact ⟨h0, h1, hd⟩
 ·exact H s hs x hx
theorem hset_some {h : Holes} {u s : Nat} {v : Option Int} {x : Int} (e : hset h u v s = some x) : (s = u ∧ v = some x) ∨ (s ≠ u ∧ h s = some x) := by
 unfold hset at e
 split at e
 ·exact .inl ⟨by assumption, e⟩
 ·exact .inr ⟨by assumption, e⟩
theorem GH.none_ {W : Int} {B : Int × Nat → Prop} {h : Holes} (H : GH W B h) (u : Nat) : GH W B (hset h u none) := by
 refine ⟨H.hi.none_ u, fun b hb s hs v e => ?_, fun s t hs ht hst v x e1 e2 => ?_⟩
 ·rcases hset_some e with ⟨_, e⟩ | ⟨_, e⟩
  ·cases e
  ·exact H.hB b hb s hs v e
 ·rcases hset_some e1 with ⟨_, e⟩ | ⟨_, e⟩
  ·cases e
  ·rcases hset_some e2 with ⟨_, e'⟩ | ⟨_, e'⟩
   ·cases e'
   ·exact H.hH s t hs ht hst v x e e'
theorem GH.put {W : Int} {B : Int × Nat → Prop} {h : Holes} (H : GH W B h) (u : Nat) (v : Int) (h0 : 2 ^ u ≤ v) (h1 : v + 2 ^ u ≤ 64 * W) (hd : (2 : Int) ^ u ∣ v) (hB : ∀ b, B b → Disj b (v, u)) (hh : ∀ s, s ≤ 5 → s ≠ u → ∀ x, h s = some x → Disj (x, s) (v, u)) : GH W B (hset h u (some v)) := by
 refine ⟨H.hi.some_ u v h0 h1 hd, fun b hb s hs x e => ?_, fun s t hs ht hst x y e1 e2 => ?_⟩
 ·rcases hset_some e with ⟨rfl, e'⟩ | ⟨_, e'⟩
  ·injection e' with e'
   subst e'
   exact hB b hb
  ·exact H.hB b hb s hs x e'
 ·rcases hset_some e1 with ⟨rfl, e⟩ | ⟨n1, e⟩
  ·injection e with e
   subst e
   rcases hset_some e2 with ⟨e', _⟩ | ⟨n2, e'⟩
   ·exact absurd e'.symm hst
   ·exact (hh t ht n2 y e').symm
  ·rcases hset_some e2 with ⟨rfl, e'⟩ | ⟨n2, e'⟩
   ·injection e' with e'
    subst e'
    exact hh s hs hst x e
   ·exact H.hH s t hs ht hst x y e e'
/-- The blocks and one more. -/
def More (B : Int × Nat → Prop) (c : Int × Nat) : Int × Nat → Prop := fun b => B b ∨ b = c
/-- What taking a hole gives. -/
structure Took (W : Int) (B : Int × Nat → Prop) (r : Int × Holes) (s : Nat) : Prop where
 gh : GH W (More B (r.1, s)) r.2
 low : 0 ≤ r.1
 high : r.1 + 2 ^ s ≤ 64 * W
 dvd : (2 : Int) ^ s ∣ r.1
 new : ∀ b, B b → Disj b (r.1, s)
theorem GH.more {W : Int} {B : Int × Nat → Prop} {h : Holes} (H : GH W B h) (c : Int × Nat) (hc : ∀ s, s ≤ 5 → ∀ v, h s = some v → Disj c (v, s)) : GH W (More B c) h :=
 ⟨H.hi, fun b hb s hs v e => by
  rcases hb with hb | rfl
  ·exact H.hB b hb s hs v e
  ·exact hc s hs v e, H.hH⟩
theorem GH.less {W : Int} {B B' : Int × Nat → Prop} {h : Holes} (H : GH W B h) (hB : ∀ b, B' b → B b) : GH W B' h := ⟨H.hi, fun b hb => H.hB b (hB b hb), H.hH⟩
theorem holeR_took {W : Int} {B : Int × Nat → Prop} {h : Holes} (H : GH W B h) : ∀ (d s : Nat) (r : Int × Holes), s + d = 6 → holeR h s d = some r → Took W B r s
 | 0, s, r, _, e => by simp [holeR] at e
 | d + 1, s, r, hs, e => by
  unfold holeR at e
  cases ho : h s with
  | some o =>
   rw [ho] at e
   injection e with e
   subst e
   obtain ⟨a, b, c⟩ := H.hi s (by omega) o ho
   have hp := p2pos s
   refine ⟨(H.none_ s).more _ (fun t ht v e => ?_), by show 0 ≤ o; omega, b, c, fun q hq => H.hB q hq s (by omega) o ho⟩
   rcases hset_some e with ⟨_, e⟩ | ⟨n, e⟩
   ·cases e
   ·exact (H.hH t s ht (by omega) n v o e ho).symm
  | none =>
   rw [ho] at e
   simp only at e
   cases hr : holeR h (s + 1) d with
   | none => rw [hr] at e; cases e
   | some r2 =>
    rw [hr] at e
    injection e with e
    subst e
    obtain ⟨g, l, hh, dv, nw⟩ := holeR_took H d (s + 1) r2 (by omega) hr
    have hp := p2pos s
    rw [Int.pow_succ] at hh
    have e2 : (2 : Int) ^ (s + 1) = 2 ^ s + 2 ^ s := by rw [Int.pow_succ]; omega
    have d0 : (2 : Int) ^ s ∣ r2.1 := Int.dvd_trans (p2dvd (by omega)) dv
    have g1 : GH W B (hset r2.2 s (some (r2.1 + 2 ^ s))) := (g.less (fun b hb => .inl hb)).put s _ (by omega) (by omega) (Int.dvd_add d0 (Int.dvd_refl _)) (fun b hb => (nw b hb).sub (by show r2.1 ≤ r2.1 + 2 ^ s; omega) (by show r2.1 + 2 ^ s + 2 ^ s ≤ r2.1 + 2 ^ (s + 1); omega)) (fun t ht ne x e => (g.hB _ (.inr rfl) t ht x e).symm.sub (by show r2.1 ≤ r2.1 + 2 ^ s; omega) (by show r2.1 + 2 ^ s + 2 ^ s ≤ r2.1 + 2 ^ (s + 1); omega))
    refine ⟨g1.more _ (fun t ht v e => ?_), l, by show r2.1 + 2 ^ s ≤ 64 * W; omega, d0, fun b hb => (nw b hb).sub (Int.le_refl _) (by show r2.1 + 2 ^ s ≤ r2.1 + 2 ^ (s + 1); omega)⟩
    rcases hset_some e with ⟨rfl, e⟩ | ⟨n, e⟩
    ·injection e with e
     subst e
     exact .inl (Int.le_refl _)
    ·exact ((g.hB _ (.inr rfl) t ht v e).symm.sub (c := (r2.1, s)) (Int.le_refl _) (by show r2.1 + 2 ^ s ≤ r2.1 + 2 ^ (s + 1); omega)).symm
/-- A new word's holes. -/
theorem fillUp_gh {W : Int} {B : Int × Nat → Prop} (h0 : 0 ≤ W) : ∀ (d u : Nat) (h : Holes), u + d ≤ 6 → GH (W + 1) B h → (∀ b, B b → b.1 + 2 ^ b.2 ≤ 64 * W + 2 ^ u) → (∀ s, s ≤ 5 → ∀ v, h s = some v → v + 2 ^ s ≤ 64 * W + 2 ^ u) → GH (W + 1) B (fillUp h (64 * W) u d)
 | 0, u, h, _, H, _, _ => H
 | d + 1, u, h, hu, H, hB, hh => by
  have h1 := p2mono (a := u + 1) (b := 6) (by omega)
  have e6 : (2 : Int) ^ 6 = 64 := by decide
  have e2 : (2 : Int) ^ (u + 1) = 2 ^ u + 2 ^ u := by rw [Int.pow_succ]; omega
  have hp := p2pos u
  refine fillUp_gh h0 d (u + 1) _ (by omega) (H.put u (64 * W + 2 ^ u) (by omega) (by omega) (Int.dvd_add (Int.dvd_trans (p2dvd (a := u) (b := 6) (by omega)) ⟨W, rfl⟩) (Int.dvd_refl _)) (fun b hb => .inl (hB b hb)) (fun s hs _ x e => .inl (hh s hs x e))) (fun b hb => by have := hB b hb; omega) (fun s hs v e => ?_)
  rcases hset_some e with ⟨rfl, e⟩ | ⟨_, e⟩
  ·injection e with e
   subst e
   omega
  ·have := hh s hs v e
   omega
theorem GH.mono {W W' : Int} {B : Int × Nat → Prop} {h : Holes} (H : GH W B h) (hw : W ≤ W') : GH W' B h := ⟨H.hi.mono hw, H.hB, H.hH⟩
/-- What finding room gives. -/
theorem findV_took {W : Int} {B : Int × Nat → Prop} {h : Holes} (H : GH W B h) (h0 : 0 ≤ W) (hB : ∀ b, B b → b.1 + 2 ^ b.2 ≤ 64 * W) (s : Nat) (hs : s ≤ 6) :
  Took (findV W h s).2.1 B ((findV W h s).1, (findV W h s).2.2) s ∧ W ≤ (findV W h s).2.1 ∧ (findV W h s).2.1 ≤ W + 1 := by
 rw [findV_holeR W h s hs]
 cases hr : holeR h s (6 - s) with
 | some r => exact ⟨holeR_took H (6 - s) s r (by omega) hr, Int.le_refl _, by show W ≤ W + 1; omega⟩
 | none =>
  have h1 := p2mono (a := s) (b := 6) (by omega)
  have e6 : (2 : Int) ^ 6 = 64 := by decide
  have hp := p2pos s
  have g : GH (W + 1) (More B (64 * W, s)) h := (H.mono (by omega)).more _ (fun t ht v e => .inr (H.hi t ht v e).2.1)
  refine ⟨⟨fillUp_gh h0 (6 - s) s h (by omega) g (fun b hb => ?_) (fun t ht v e => by have := (H.hi t ht v e).2.1; omega), by show 0 ≤ 64 * W; omega, by show 64 * W + 2 ^ s ≤ 64 * (W + 1); omega, Int.dvd_trans (p2dvd (a := s) (b := 6) hs) ⟨W, rfl⟩, fun b hb => .inl (hB b hb)⟩, by show W ≤ W + 1; omega, by show W + 1 ≤ W + 1; omega⟩
  rcases hb with hb | rfl
  ·have := hB b hb; omega
  ·exact Int.le_refl _
/-! how much of the holes is left -/
def hsum (h : Holes) : Nat → Int
 | 0 => 0
 | n + 1 => hsum h n + (match h n with | some _ => 2 ^ n | none => 0)
end Go.Proofs.YtjeipkfeihahdaaGreatDoor.Lem
namespace Go.Proofs.YtjeipkfeihahdaaGreatDoor.Lem
set_option linter.unusedVariables false
open Go Go.RowKit
/-- The blocks that are taken, each with its owner: 0 a room, 1 the tag, i + 2 the field i. -/
structure Led (W : Int) (h : Holes) (B : List ((Int × Nat) × Nat)) : Prop where
 gh : GH W (fun b => ∃ o, (b, o) ∈ B) h
 w0 : 0 ≤ W
 blk : ∀ x ∈ B, 0 ≤ x.1.1 ∧ x.1.1 + 2 ^ x.1.2 ≤ 64 * W
 disj : ∀ x ∈ B, ∀ y ∈ B, x = y ∨ Disj x.1 y.1
theorem Led.find {W : Int} {h : Holes} {B : List ((Int × Nat) × Nat)} (H : Led W h B) (s : Nat) (hs : s ≤ 6) (o : Nat) :
  Led (findV W h s).2.1 (findV W h s).2.2 ((((findV W h s).1, s), o) :: B) ∧ W ≤ (findV W h s).2.1 ∧ (findV W h s).2.1 ≤ W + 1 ∧ (2 : Int) ^ s ∣ (findV W h s).1 ∧ 0 ≤ (findV W h s).1 := by
 obtain ⟨T, hw, hw1⟩ := findV_took H.gh H.w0 (fun b hb => by obtain ⟨o, hb⟩ := hb; exact (H.blk _ hb).2) s hs
 have h0 := H.w0
 refine ⟨⟨T.gh.less (fun b hb => ?_), by omega, fun x hx => ?_, fun x hx y hy => ?_⟩, hw, hw1, T.dvd, T.low⟩
 ·obtain ⟨o', hb⟩ := hb
  rcases List.mem_cons.mp hb with e | hb
  ·injection e with e1 e2
   exact .inr e1
  ·exact .inl ⟨o', hb⟩
 ·rcases List.mem_cons.mp hx with rfl | hx
  ·exact ⟨T.low, T.high⟩
  ·obtain ⟨a, b⟩ := H.blk x hx
   exact ⟨a, by omega⟩
 ·rcases List.mem_cons.mp hx with rfl | hx
  ·rcases List.mem_cons.mp hy with rfl | hy
   ·exact .inl rfl
   ·exact .inr (T.new y.1 ⟨y.2, hy⟩).symm
  ·rcases List.mem_cons.mp hy with rfl | hy
   ·exact .inr (T.new x.1 ⟨x.2, hx⟩)
   ·exact H.disj x hx y hy
/-- A field's block. -/
def blkE (e : (Int × Bool) × Int) : Int × Nat := (e.2 * 2 ^ scl e.1.1, scl e.1.1)
abbrev FL := List ((Int × Bool) × Int)
structure FInv (p : PS) (B : List ((Int × Nat) × Nat)) (L : FL) : Prop where
 led : Led p.words p.h B
 rooms : ∀ r ∈ p.rooms, (r, 0) ∈ B
 tag : 0 ≤ p.tag → ((16 * p.tag, 4), 1) ∈ B
 field : ∀ (i : Nat) e, L[i]? = some e → e.1.1 ≠ 6 → e.1.2 = false → (blkE e, i + 2) ∈ B
 choice : ∀ (i : Nat) e, L[i]? = some e → e.1.1 ≠ 6 → e.1.2 = true → ∃ r, (r, 0) ∈ B ∧ (blkE e).1 = r.1 ∧ scl e.1.1 ≤ r.2
 ptr : ∀ (i : Nat) e, L[i]? = some e → e.1.1 = 6 → e.1.2 = false → 0 ≤ e.2 ∧ e.2 < p.ptrs ∧ e.2 ≠ p.pointer
 ptrc : ∀ (i : Nat) e, L[i]? = some e → e.1.1 = 6 → e.1.2 = true → e.2 = p.pointer ∧ 0 ≤ p.pointer
 ptrD : ∀ (i k : Nat) e e', L[i]? = some e → L[k]? = some e' → i ≠ k → e.1.1 = 6 → e'.1.1 = 6 → e.1.2 = false → e'.1.2 = false → e.2 ≠ e'.2
 point : -1 ≤ p.pointer ∧ p.pointer < p.ptrs
 tagn : (p.choices < 2 → p.tag = -1) ∧ (2 ≤ p.choices → 0 ≤ p.tag)
theorem FInv.new : FInv PS.new [] [] := by
 refine ⟨⟨⟨fun s hs v hv => ?_, fun b hb => ?_, fun s t hs ht hst v u hv => ?_⟩, Int.le_refl _, fun x hx => (by cases hx), fun x hx => (by cases hx)⟩, fun r hr => (by cases hr), fun h => absurd h (by decide), ?_, ?_, ?_, ?_, ?_, by decide, ⟨fun _ => rfl, fun h => absurd h (by decide)⟩⟩
 ·cases hv
 ·obtain ⟨_, hb⟩ := hb
  cases hb
 ·cases hv
 all_goals (intros; simp_all)
/-- A state of more blocks, as the elder fields see it. -/
theorem mulE {x : Int} {s : Nat} (h : (2 : Int) ^ s ∣ x) : x / 2 ^ s * 2 ^ s = x := Int.ediv_mul_cancel h
theorem get_snoc {α : Type} {L : List α} {e x : α} {i : Nat} (h : (L ++ [e])[i]? = some x) : L[i]? = some x ∨ (i = L.length ∧ x = e) := by
 rcases Nat.lt_trichotomy i L.length with hl | hl | hl
 ·rw [List.getElem?_append_left hl] at h
  exact .inl h
 ·subst hl
  rw [List.getElem?_append_right (Nat.le_refl _), Nat.sub_self] at h
  exact .inr ⟨rfl, by injection h with h; exact h.symm⟩
 ·rw [List.getElem?_eq_none (by simp; omega)] at h
  cases h
theorem FInv.tagged {p : PS} {B : List ((Int × Nat) × Nat)} {L : FL} (H : FInv p B L) (hc : 0 ≤ p.choices) : ∃ B', FInv (tagP p) B' L ∧ (tagP p).choices = p.choices + 1 := by
 unfold tagP
 split
 ·rename_i h2
  obtain ⟨D, hw, hw1, dv, l0⟩ := H.led.find 4 (by decide) 1
  refine ⟨_, ⟨D, fun r hr => List.mem_cons_of_mem _ (H.rooms r hr), fun _ => ?_, fun i e he h1 h2 => List.mem_cons_of_mem _ (H.field i e he h1 h2), fun i e he h1 h2 => ?_, H.ptr, H.ptrc, H.ptrD, H.point, ⟨fun h => ?_, fun _ => ?_⟩⟩, rfl⟩
  ·have e : 16 * ((findV p.words p.h 4).1 / 16) = (findV p.words p.h 4).1 := Int.mul_ediv_cancel' dv
   show ((16 * ((findV p.words p.h 4).1 / 16), 4), 1) ∈ _
   rw [e]
   exact List.mem_cons_self
  ·obtain ⟨r, a, b⟩ := H.choice i e he h1 h2
   exact ⟨r, List.mem_cons_of_mem _ a, b⟩
  ·have h' : p.choices + 1 < 2 := h
   omega
  ·show 0 ≤ (findV p.words p.h 4).1 / 16
   omega
 ·rename_i h2
  exact ⟨B, ⟨H.led, H.rooms, H.tag, H.field, H.choice, H.ptr, H.ptrc, H.ptrD, H.point, ⟨fun h => H.tagn.1 (by have h' : p.choices + 1 < 2 := h; omega), fun h => H.tagn.2 (by have h' : 2 ≤ p.choices + 1 := h; omega)⟩⟩, rfl⟩
theorem FInv.putData {p : PS} {B : List ((Int × Nat) × Nat)} {L : FL} (H : FInv p B L) (size : Int) (h6 : size ≠ 6) : ∃ B', FInv (findP p (scl size)).2 B' (L ++ [((size, false), (findP p (scl size)).1 / 2 ^ scl size)]) := by
 obtain ⟨D, hw, hw1, dv, l0⟩ := H.led.find (scl size) (scl_le size) (L.length + 2)
 refine ⟨_, ⟨D, fun r hr => List.mem_cons_of_mem _ (H.rooms r hr), fun h => List.mem_cons_of_mem _ (H.tag h), fun i e he h1 h2 => ?_, fun i e he h1 h2 => ?_, fun i e he h1 h2 => ?_, fun i e he h1 h2 => ?_, fun i k e e' he he' hik h1 h1' => ?_, H.point, H.tagn⟩⟩
 ·rcases get_snoc he with he | ⟨rfl, rfl⟩
  ·exact List.mem_cons_of_mem _ (H.field i e he h1 h2)
  ·refine List.mem_cons.mpr (.inl ?_)
   show (((findV p.words p.h (scl size)).1 / 2 ^ scl size * 2 ^ scl size, scl size), L.length + 2) = _
   rw [mulE dv]
 ·rcases get_snoc he with he | ⟨rfl, rfl⟩
  ·obtain ⟨r, a, b⟩ := H.choice i e he h1 h2
   exact ⟨r, List.mem_cons_of_mem _ a, b⟩
  ·cases h2
 ·rcases get_snoc he with he | ⟨rfl, rfl⟩
  ·exact H.ptr i e he h1 h2
  ·exact absurd h1 h6
 ·rcases get_snoc he with he | ⟨rfl, rfl⟩
  ·exact H.ptrc i e he h1 h2
  ·cases h2
 ·rcases get_snoc he with he | ⟨rfl, rfl⟩
  ·rcases get_snoc he' with he' | ⟨rfl, rfl⟩
   ·exact H.ptrD i k e e' he he' hik h1 h1'
   ·exact absurd h1' h6
  ·exact absurd h1 h6
theorem FInv.putRoom {q : PS} {B : List ((Int × Nat) × Nat)} {L : FL} (H : FInv q B L) (size : Int) (h6 : size ≠ 6) (hal : ∀ r ∈ q.rooms, (2 : Int) ^ r.2 ∣ r.1) : ∃ B', FInv (roomP q (scl size)).2 B' (L ++ [((size, true), (roomP q (scl size)).1 / 2 ^ scl size)]) := by
 have rest : ∀ (q' : PS) (B' : List ((Int × Nat) × Nat)) (x : Int), (∀ y ∈ B, y ∈ B') → Led q'.words q'.h B' → (∀ r ∈ q'.rooms, (r, 0) ∈ B') → q'.tag = q.tag → q'.ptrs = q.ptrs → q'.pointer = q.pointer → q'.choices = q.choices → (∃ r, (r, 0) ∈ B' ∧ x / 2 ^ scl size * 2 ^ scl size = r.1 ∧ scl size ≤ r.2) → FInv q' B' (L ++ [((size, true), x / 2 ^ scl size)]) := by
  intro q' B' x hB hD hr e1 e2 e3 e4 hx
  refine ⟨hD, hr, fun h => ?_, fun i e he h1 h2 => ?_, fun i e he h1 h2 => ?_, fun i e he h1 h2 => ?_, fun i e he h1 h2 => ?_, fun i k e e' he he' hik h1 h1' => ?_, ?_, ?_⟩
  ·rw [e1] at h ⊢
   exact hB _ (H.tag h)
  ·rcases get_snoc he with he | ⟨rfl, rfl⟩
   ·exact hB _ (H.field i e he h1 h2)
   ·cases h2
  ·rcases get_snoc he with he | ⟨rfl, rfl⟩
   ·obtain ⟨r, a, b⟩ := H.choice i e he h1 h2
    exact ⟨r, hB _ a, b⟩
   ·exact hx
  ·rw [e2, e3]
   rcases get_snoc he with he | ⟨rfl, rfl⟩
   ·exact H.ptr i e he h1 h2
   ·exact absurd h1 h6
  ·rw [e3]
   rcases get_snoc he with he | ⟨rfl, rfl⟩
   ·exact H.ptrc i e he h1 h2
   ·exact absurd h1 h6
  ·rcases get_snoc he with he | ⟨rfl, rfl⟩
   ·rcases get_snoc he' with he' | ⟨rfl, rfl⟩
    ·exact H.ptrD i k e e' he he' hik h1 h1'
    ·exact absurd h1' h6
   ·exact absurd h1 h6
  ·rw [e2, e3]; exact H.point
  ·rw [e1, e4]; exact H.tagn
 unfold roomP
 split
 ·rename_i r hr
  obtain ⟨a, b⟩ := firstRoom_mem hr
  exact ⟨B, rest q B r.1 (fun y hy => hy) H.led H.rooms rfl rfl rfl rfl ⟨r, H.rooms r a, mulE (Int.dvd_trans (p2dvd b) (hal r a)), b⟩⟩
 ·obtain ⟨D, hw, hw1, dv, l0⟩ := H.led.find (scl size) (scl_le size) 0
  refine ⟨_, rest _ _ (findP q (scl size)).1 (fun y hy => List.mem_cons_of_mem _ hy) D (fun r hr => ?_) rfl rfl rfl rfl ⟨((findP q (scl size)).1, scl size), List.mem_cons_self, mulE dv, Nat.le_refl _⟩⟩
  rcases List.mem_append.mp hr with hr | hr
  ·exact List.mem_cons_of_mem _ (H.rooms r hr)
  ·rcases List.mem_singleton.mp hr with rfl
   exact List.mem_cons_self
theorem FInv.put {kw k : Nat} {p : PS} {B : List ((Int × Nat) × Nat)} {L : FL} (H : FInv p B L) (hi : Inv kw k p) (f : Int × Bool) : ∃ B', FInv (putP p f.1 f.2).2 B' (L ++ [(f, (putP p f.1 f.2).1)]) := by
 obtain ⟨size, ch⟩ := f
 have hpt := hi.ptrs
 cases ch with
 | false =>
  by_cases h6 : size = 6
  ·have e : putP p size false = (p.ptrs, { p with ptrs := p.ptrs + 1 }) := by unfold putP; rw [if_neg (by decide), if_pos h6]
   simp only [e]
   obtain ⟨g0, g1⟩ := H.point
   refine ⟨B, ⟨H.led, H.rooms, H.tag, fun i e he h1 h2 => ?_, fun i e he h1 h2 => ?_, fun i e he h1 h2 => ?_, fun i e he h1 h2 => ?_, fun i k e e' he he' hik h1 h1' h2 h2' => ?_, ⟨g0, by show p.pointer < p.ptrs + 1; omega⟩, H.tagn⟩⟩
   ·rcases get_snoc he with he | ⟨rfl, rfl⟩
    ·exact H.field i e he h1 h2
    ·exact absurd h6 h1
   ·rcases get_snoc he with he | ⟨rfl, rfl⟩
    ·exact H.choice i e he h1 h2
    ·exact absurd h6 h1
   ·rcases get_snoc he with he | ⟨rfl, rfl⟩
    ·obtain ⟨a, b, c⟩ := H.ptr i e he h1 h2
     exact ⟨a, by show e.2 < p.ptrs + 1; omega, c⟩
    ·exact ⟨hpt.1, by show p.ptrs < p.ptrs + 1; omega, by show p.ptrs ≠ p.pointer; omega⟩
   ·rcases get_snoc he with he | ⟨rfl, rfl⟩
    ·exact H.ptrc i e he h1 h2
    ·cases h2
   ·rcases get_snoc he with he | ⟨rfl, rfl⟩
    ·rcases get_snoc he' with he' | ⟨rfl, rfl⟩
     ·exact H.ptrD i k e e' he he' hik h1 h1' h2 h2'
     ·have := (H.ptr i e he h1 h2).2.1
      show e.2 ≠ p.ptrs
      omega
    ·rcases get_snoc he' with he' | ⟨rfl, rfl⟩
     ·have := (H.ptr k e' he' h1' h2').2.1
      show p.ptrs ≠ e'.2
      omega
     ·exact absurd rfl hik
  ·have e : putP p size false = ((findP p (scl size)).1 / 2 ^ scl size, (findP p (scl size)).2) := by unfold putP; rw [if_neg (by decide), if_neg h6]
   simp only [e]
   exact H.putData size h6
 | true =>
  obtain ⟨B1, HT, hc⟩ := H.tagged hi.choices.1
  obtain ⟨e1, e2, e3, e4⟩ := tagP_eq p
  by_cases h6 : size = 6
  ·have e : putP p size true = pointP (tagP p) := by unfold putP; rw [if_pos rfl, if_pos h6]; unfold choiceP; rw [if_pos h6]
   simp only [e]
   generalize tagP p = q at *
   obtain ⟨g0, g1⟩ := HT.point
   unfold pointP
   split
   ·rename_i hn
    refine ⟨B1, ⟨HT.led, HT.rooms, HT.tag, fun i e he h1 h2 => ?_, fun i e he h1 h2 => ?_, fun i e he h1 h2 => ?_, fun i e he h1 h2 => ?_, fun i k e e' he he' hik h1 h1' h2 h2' => ?_, ⟨by show -1 ≤ q.ptrs; omega, by show q.ptrs < q.ptrs + 1; omega⟩, HT.tagn⟩⟩
    ·rcases get_snoc he with he | ⟨rfl, rfl⟩
     ·exact HT.field i e he h1 h2
     ·exact absurd h6 h1
    ·rcases get_snoc he with he | ⟨rfl, rfl⟩
     ·exact HT.choice i e he h1 h2
     ·exact absurd h6 h1
    ·rcases get_snoc he with he | ⟨rfl, rfl⟩
     ·obtain ⟨a, b, c⟩ := HT.ptr i e he h1 h2
      exact ⟨a, by show e.2 < q.ptrs + 1; omega, by show e.2 ≠ q.ptrs; omega⟩
     ·cases h2
    ·rcases get_snoc he with he | ⟨rfl, rfl⟩
     ·obtain ⟨a, b⟩ := HT.ptrc i e he h1 h2
      omega
     ·exact ⟨rfl, by show 0 ≤ q.ptrs; omega⟩
    ·rcases get_snoc he with he | ⟨rfl, rfl⟩
     ·rcases get_snoc he' with he' | ⟨rfl, rfl⟩
      ·exact HT.ptrD i k e e' he he' hik h1 h1' h2 h2'
      ·cases h2'
     ·cases h2
   ·rename_i hn
    refine ⟨B1, ⟨HT.led, HT.rooms, HT.tag, fun i e he h1 h2 => ?_, fun i e he h1 h2 => ?_, fun i e he h1 h2 => ?_, fun i e he h1 h2 => ?_, fun i k e e' he he' hik h1 h1' h2 h2' => ?_, ⟨g0, g1⟩, HT.tagn⟩⟩
    ·rcases get_snoc he with he | ⟨rfl, rfl⟩
     ·exact HT.field i e he h1 h2
     ·exact absurd h6 h1
    ·rcases get_snoc he with he | ⟨rfl, rfl⟩
     ·exact HT.choice i e he h1 h2
     ·exact absurd h6 h1
    ·rcases get_snoc he with he | ⟨rfl, rfl⟩
     ·exact HT.ptr i e he h1 h2
     ·cases h2
    ·rcases get_snoc he with he | ⟨rfl, rfl⟩
     ·exact HT.ptrc i e he h1 h2
     ·exact ⟨rfl, by show 0 ≤ q.pointer; omega⟩
    ·rcases get_snoc he with he | ⟨rfl, rfl⟩
     ·rcases get_snoc he' with he' | ⟨rfl, rfl⟩
      ·exact HT.ptrD i k e e' he he' hik h1 h1' h2 h2'
      ·cases h2'
     ·cases h2
  ·have e : putP p size true = ((roomP (tagP p) (scl size)).1 / 2 ^ scl size, (roomP (tagP p) (scl size)).2) := by unfold putP; rw [if_pos rfl, if_neg h6]; unfold choiceP; rw [if_neg h6]
   simp only [e]
   exact HT.putRoom size h6 (fun r hr => (hi.tagged.rooms r hr).2.2.2)
/-- The fields, laid. -/
def zipL (l : List (Int × Bool)) (xs : List Int) : FL := l.zip xs
theorem FInv.lay : ∀ (l : List (Int × Bool)) {kw k : Nat} {p : PS} {B : List ((Int × Nat) × Nat)} {L : FL}, Inv kw k p → FInv p B L → ∃ B', FInv (layP p l).2 B' (L ++ zipL l (layP p l).1)
 | [], kw, k, p, B, L, hi, H => ⟨B, by simpa [zipL, layP] using H⟩
 | f :: l, kw, k, p, B, L, hi, H => by
  obtain ⟨B1, H1⟩ := H.put hi f
  obtain ⟨B2, H2⟩ := FInv.lay l (hi.put f.1 f.2).1 H1
  refine ⟨B2, ?_⟩
  have e : L ++ zipL (f :: l) (layP p (f :: l)).1 = L ++ [(f, (putP p f.1 f.2).1)] ++ zipL l (layP (putP p f.1 f.2).2 l).1 := by simp [zipL, layP]
  rw [e]
  exact H2
end Go.Proofs.YtjeipkfeihahdaaGreatDoor.Lem
namespace Go.Proofs.YtjeipkfeihahdaaGreatDoor.Lem
set_option linter.unusedVariables false
open Go Go.RowKit
/-- What one field more does. -/
structure Step (p q : PS) (size : Int) (ch : Bool) : Prop where
 words : p.words ≤ q.words
 wordsUp : q.words ≤ p.words + (if size = 6 then 0 else 1) + (if ch = true ∧ p.choices + 1 = 2 then 1 else 0)
 ptrs : p.ptrs ≤ q.ptrs
 ptrsUp : q.ptrs ≤ p.ptrs + (if size = 6 then 1 else 0)
 choices : q.choices = p.choices + (if ch = true then 1 else 0)
 tag : 2 ≤ p.choices → q.tag = p.tag
theorem findV_words {W : Int} {h : Holes} (s : Nat) (hs : s ≤ 6) : W ≤ (findV W h s).2.1 ∧ (findV W h s).2.1 ≤ W + 1 := by
 rw [findV_holeR W h s hs]
 split
 ·exact ⟨Int.le_refl _, by show W ≤ W + 1; omega⟩
 ·exact ⟨by show W ≤ W + 1; omega, Int.le_refl _⟩
theorem tagP_words (p : PS) : p.words ≤ (tagP p).words ∧ (tagP p).words ≤ p.words + (if p.choices + 1 = 2 then 1 else 0) ∧ (2 ≤ p.choices → (tagP p).tag = p.tag) := by
 unfold tagP
 split
 ·obtain ⟨a, b⟩ := findV_words (W := p.words) (h := p.h) 4 (by decide)
  exact ⟨a, b, fun h => by omega⟩
 ·exact ⟨Int.le_refl _, by show p.words ≤ p.words + 0; omega, fun _ => rfl⟩
theorem put_step (p : PS) (size : Int) (ch : Bool) : Step p (putP p size ch).2 size ch := by
 have fw : ∀ q : PS, q.words ≤ (findP q (scl size)).2.words ∧ (findP q (scl size)).2.words ≤ q.words + 1 := fun q => findV_words (scl size) (scl_le size)
 cases ch with
 | false =>
  by_cases h6 : size = 6
  ·have e : putP p size false = (p.ptrs, { p with ptrs := p.ptrs + 1 }) := by unfold putP; rw [if_neg (by decide), if_pos h6]
   rw [e]
   exact ⟨Int.le_refl _, by rw [if_pos h6]; simp, by show p.ptrs ≤ p.ptrs + 1; omega, by rw [if_pos h6]; exact Int.le_refl _, by simp, fun _ => rfl⟩
  ·have e : putP p size false = ((findP p (scl size)).1 / 2 ^ scl size, (findP p (scl size)).2) := by unfold putP; rw [if_neg (by decide), if_neg h6]
   rw [e]
   obtain ⟨a, b⟩ := fw p
   exact ⟨a, by rw [if_neg h6]; simpa using b, Int.le_refl _, by rw [if_neg h6]; show p.ptrs ≤ p.ptrs + 0; omega, by simp [findP], fun _ => rfl⟩
 | true =>
  obtain ⟨e1, e2, e3, e4⟩ := tagP_eq p
  obtain ⟨t1, t2, t3⟩ := tagP_words p
  have t2' : (tagP p).words ≤ p.words + (if (true = true ∧ p.choices + 1 = 2) then 1 else 0) := by simpa using t2
  by_cases h6 : size = 6
  ·have e : putP p size true = pointP (tagP p) := by unfold putP; rw [if_pos rfl, if_pos h6]; unfold choiceP; rw [if_pos h6]
   rw [e]
   unfold pointP
   split
   ·exact ⟨t1, by rw [if_pos h6]; show (tagP p).words ≤ _; omega, by show p.ptrs ≤ (tagP p).ptrs + 1; omega, by rw [if_pos h6]; show (tagP p).ptrs + 1 ≤ _; omega, by rw [if_pos rfl]; exact e4, t3⟩
   ·exact ⟨t1, by rw [if_pos h6]; show (tagP p).words ≤ _; omega, by show p.ptrs ≤ (tagP p).ptrs; omega, by rw [if_pos h6]; show (tagP p).ptrs ≤ _; omega, by rw [if_pos rfl]; exact e4, t3⟩
  ·have e : putP p size true = ((roomP (tagP p) (scl size)).1 / 2 ^ scl size, (roomP (tagP p) (scl size)).2) := by unfold putP; rw [if_pos rfl, if_neg h6]; unfold choiceP; rw [if_neg h6]
   rw [e]
   unfold roomP
   split
   ·exact ⟨t1, by rw [if_neg h6]; show (tagP p).words ≤ _; omega, by show p.ptrs ≤ (tagP p).ptrs; omega, by rw [if_neg h6]; show (tagP p).ptrs ≤ _; omega, by rw [if_pos rfl]; exact e4, t3⟩
   ·obtain ⟨a, b⟩ := fw (tagP p)
    exact ⟨by show p.words ≤ (findP (tagP p) (scl size)).2.words; omega, by rw [if_neg h6]; show (findP (tagP p) (scl size)).2.words ≤ _; omega, by show p.ptrs ≤ (tagP p).ptrs; omega, by rw [if_neg h6]; show (tagP p).ptrs ≤ _; omega, by rw [if_pos rfl]; exact e4, t3⟩
def nChoice : List (Int × Bool) → Int
 | [] => 0
 | f :: l => (if f.2 = true then 1 else 0) + nChoice l
def nPoint : List (Int × Bool) → Int
 | [] => 0
 | f :: l => (if f.1 = 6 then 1 else 0) + nPoint l
theorem nChoice_cons (f : Int × Bool) (l : List (Int × Bool)) : nChoice (f :: l) = (if f.2 = true then 1 else 0) + nChoice l := rfl
theorem nPoint_cons (f : Int × Bool) (l : List (Int × Bool)) : nPoint (f :: l) = (if f.1 = 6 then 1 else 0) + nPoint l := rfl
theorem nChoice_nonneg (l : List (Int × Bool)) : 0 ≤ nChoice l := by
 induction l with
 | nil => exact Int.le_refl _
 | cons f l ih =>
  rw [nChoice_cons]
  by_cases h : f.2 = true
  ·rw [if_pos h]; omega
  ·rw [if_neg h]; omega
theorem lay_choices : ∀ (l : List (Int × Bool)) (p : PS), (layP p l).2.choices = p.choices + nChoice l
 | [], p => by simp [layP, nChoice]
 | f :: l, p => by
  have S := (put_step p f.1 f.2).choices
  have ih := lay_choices l (putP p f.1 f.2).2
  show (layP (putP p f.1 f.2).2 l).2.choices = _
  rw [ih, S, nChoice_cons]
  omega
theorem lay_words : ∀ (l : List (Int × Bool)) (p : PS), 0 ≤ p.choices → (∃ t : Int, (t = 0 ∨ (t = 1 ∧ p.choices < 2 ∧ 2 ≤ p.choices + nChoice l)) ∧ (layP p l).2.words ≤ p.words + (l.length - nPoint l) + t) ∧ (layP p l).2.ptrs ≤ p.ptrs + nPoint l
 | [], p, h0 => ⟨⟨0, .inl rfl, by simp [layP, nPoint]⟩, by simp [layP, nPoint]⟩
 | f :: l, p, h0 => by
  have S := put_step p f.1 f.2
  have s1 := S.choices
  have s2 := S.wordsUp
  have s3 := S.ptrsUp
  have hn := nChoice_nonneg l
  obtain ⟨⟨t, ht, a⟩, b⟩ := lay_words l (putP p f.1 f.2).2 (by rw [s1]; split <;> omega)
  have e1 : (layP p (f :: l)).2 = (layP (putP p f.1 f.2).2 l).2 := rfl
  rw [e1, nPoint_cons, nChoice_cons, List.length_cons]
  generalize (layP (putP p f.1 f.2).2 l).2 = z at *
  generalize (putP p f.1 f.2).2 = y at *
  generalize nPoint l = m at *
  generalize nChoice l = n at *
  refine ⟨?_, by split at s3 <;> omega⟩
  by_cases hc : f.2 = true
  ·rw [if_pos hc] at s1 ⊢
   by_cases h1 : p.choices + 1 = 2
   ·rw [if_pos (c := f.2 = true ∧ p.choices + 1 = 2) ⟨hc, h1⟩] at s2
    exact ⟨1, .inr ⟨rfl, by omega, by omega⟩, by split at s2 <;> omega⟩
   ·rw [if_neg (c := f.2 = true ∧ p.choices + 1 = 2) (fun h => h1 h.2)] at s2
    exact ⟨t, by omega, by split at s2 <;> omega⟩
  ·rw [if_neg hc] at s1 ⊢
   rw [if_neg (c := f.2 = true ∧ p.choices + 1 = 2) (fun h => hc h.1)] at s2
   exact ⟨t, by omega, by split at s2 <;> omega⟩
/-- The bits of fields that are no choices. -/
def nBits : List (Int × Bool) → Int
 | [] => 0
 | f :: l => (if f.1 = 6 then 0 else 2 ^ scl f.1) + nBits l
end Go.Proofs.YtjeipkfeihahdaaGreatDoor.Lem
