/- How fields are laid out, in plain terms: words, and holes by the exponent of their size. -/
import Derived.Test.YtjjcepnadjociaaDoorV2
namespace Go.Proofs.YtjjcepnadjociaaDoor.Lem
set_option linter.unusedVariables false
open Go Go.RowKit
/-- The holes: at most one of each size 2^0 .. 2^5. -/
abbrev Holes := Nat → Option Int
def hset (h : Holes) (u : Nat) (v : Option Int) : Holes := fun x => if x = u then v else h x
/-- The rest of a hole of size 2^(s+d) at 'from', of which the first 2^s bits are taken. -/
def halve (h : Holes) (o : Int) (s : Nat) : Nat → Holes
  | 0 => h
  | d + 1 => halve (hset h (s + d) (some (o + 2 ^ (s + d)))) o s d
/-- A new word's rest, from size 2^u on. -/
def fillUp (h : Holes) (o : Int) (u : Nat) : Nat → Holes
  | 0 => h
  | d + 1 => fillUp (hset h u (some (o + 2 ^ u))) o (u + 1) d
/-- Where room of size 2^s is found, from size 2^t on: the place, the words, the holes. -/
def findF (words : Int) (h : Holes) (s t : Nat) : Nat → Int × Int × Holes
  | 0 => (64 * words, words + 1, fillUp h (64 * words) s (6 - s))
  | d + 1 => match h t with
    | some o => (o, words, halve (hset h t none) o s (t - s))
    | none => findF words h s (t + 1) d
def findV (words : Int) (h : Holes) (s : Nat) : Int × Int × Holes := if 6 ≤ s then (64 * words, words + 1, h) else findF words h s s (6 - s)
/-- A plan: rooms are told by place and by size's exponent. -/
structure PS where
  words : Int
  ptrs : Int
  tag : Int
  pointer : Int
  choices : Int
  rooms : List (Int × Nat)
  h : Holes
def PS.new : PS := ⟨0, 0, -1, -1, 0, [], fun _ => none⟩
def findP (p : PS) (s : Nat) : Int × PS := ((findV p.words p.h s).1, { p with words := (findV p.words p.h s).2.1, h := (findV p.words p.h s).2.2 })
def tagP (p : PS) : PS :=
  if p.choices + 1 = 2 then { (findP { p with choices := p.choices + 1 } 4).2 with tag := (findP { p with choices := p.choices + 1 } 4).1 / 16 } else { p with choices := p.choices + 1 }
def scl (size : Int) : Nat := if size = 1 then 0 else if size = 2 then 3 else if size = 3 then 4 else if size = 4 then 5 else 6
def firstRoom : List (Int × Nat) → Nat → Option (Int × Nat)
  | [], _ => none
  | r :: l, s => if s ≤ r.2 then some r else firstRoom l s
def roomP (q : PS) (s : Nat) : Int × PS := match firstRoom q.rooms s with
  | some r => (r.1, q)
  | none => ((findP q s).1, { (findP q s).2 with rooms := q.rooms ++ [((findP q s).1, s)] })
def pointP (q : PS) : Int × PS := if q.pointer < 0 then (q.ptrs, { q with pointer := q.ptrs, ptrs := q.ptrs + 1 }) else (q.pointer, q)
def choiceP (p : PS) (size : Int) : Int × PS := if size = 6 then pointP (tagP p) else roomP (tagP p) (scl size)
/-- Where a field stands, in its own size. -/
def putP (p : PS) (size : Int) (ch : Bool) : Int × PS :=
  if ch = true then (if size = 6 then choiceP p size else ((choiceP p size).1 / 2 ^ scl size, (choiceP p size).2))
  else if size = 6 then (p.ptrs, { p with ptrs := p.ptrs + 1 })
  else ((findP p (scl size)).1 / 2 ^ scl size, (findP p (scl size)).2)
def layP (p : PS) : List (Int × Bool) → List Int × PS
  | [] => ([], p)
  | f :: l => ((putP p f.1 f.2).1 :: (layP (putP p f.1 f.2).2 l).1, (layP (putP p f.1 f.2).2 l).2)
theorem layP_snoc (f : Int × Bool) : ∀ (l : List (Int × Bool)) (p : PS), layP p (l ++ [f]) = ((layP p l).1 ++ [(putP (layP p l).2 f.1 f.2).1], (putP (layP p l).2 f.1 f.2).2)
  | [], p => rfl
  | g :: l, p => by simp only [List.cons_append, layP, layP_snoc f l]
theorem layP_length : ∀ (l : List (Int × Bool)) (p : PS), (layP p l).1.length = l.length
  | [], _ => rfl
  | f :: l, p => by simp [layP, layP_length l]
/-! what holds of a plan -/
def HI (words : Int) (h : Holes) : Prop := ∀ s, s ≤ 5 → ∀ v, h s = some v → 2 ^ s ≤ v ∧ v + 2 ^ s ≤ 64 * words ∧ (2 : Int) ^ s ∣ v
theorem p2pos (s : Nat) : (1 : Int) ≤ 2 ^ s := by
  induction s with
  | zero => decide
  | succ n ih => rw [Int.pow_succ]; omega
theorem p2dvd {a b : Nat} (h : a ≤ b) : (2 : Int) ^ a ∣ 2 ^ b := by
  obtain ⟨d, rfl⟩ := Nat.exists_eq_add_of_le h
  exact ⟨2 ^ d, Int.pow_add 2 a d⟩
theorem p2mono {a b : Nat} (h : a ≤ b) : (2 : Int) ^ a ≤ 2 ^ b := by
  obtain ⟨d, rfl⟩ := Nat.exists_eq_add_of_le h
  rw [Int.pow_add]
  have h1 := p2pos a
  have h2 := p2pos d
  calc (2 : Int) ^ a = 2 ^ a * 1 := (Int.mul_one _).symm
    _ ≤ 2 ^ a * 2 ^ d := Int.mul_le_mul_of_nonneg_left h2 (by omega)
theorem HI.mono {words words' : Int} {h : Holes} (H : HI words h) (hw : words ≤ words') : HI words' h := fun s hs v hv => by
  obtain ⟨a, b, c⟩ := H s hs v hv
  exact ⟨a, by omega, c⟩
theorem HI.none_ {words : Int} {h : Holes} (H : HI words h) (u : Nat) : HI words (hset h u none) := fun s hs v hv => by
  unfold hset at hv
  split at hv
  · cases hv
  · exact H s hs v hv
theorem HI.put {words : Int} {h : Holes} (H : HI words h) (u : Nat) (o : Int) (h0 : 0 ≤ o) (h1 : o + 2 ^ (u + 1) ≤ 64 * words) (hd : (2 : Int) ^ u ∣ o) : HI words (hset h u (some (o + 2 ^ u))) := fun s hs v hv => by
  unfold hset at hv
  split at hv
  · rename_i e
    subst e
    injection hv with hv
    subst hv
    rw [Int.pow_succ] at h1
    exact ⟨by omega, by omega, Int.dvd_add hd (Int.dvd_refl _)⟩
  · exact H s hs v hv
theorem halve_HI {words o : Int} (s : Nat) : ∀ (d : Nat) (h : Holes), HI words h → 0 ≤ o → o + 2 ^ (s + d) ≤ 64 * words → (2 : Int) ^ (s + d) ∣ o → HI words (halve h o s d)
  | 0, h, H, _, _, _ => H
  | d + 1, h, H, h0, h1, hd => by
    have e : s + (d + 1) = (s + d) + 1 := rfl
    rw [e] at h1 hd
    have hp := p2pos (s + d)
    have hd' : (2 : Int) ^ (s + d) ∣ o := Int.dvd_trans (p2dvd (by omega)) hd
    exact halve_HI s d _ (H.put (s + d) o h0 h1 hd') h0 (by rw [Int.pow_succ] at h1; omega) hd'
theorem fillUp_HI {words w1 : Int} (h0 : 0 ≤ words) (hw : words + 1 = w1) : ∀ (d u : Nat) (h : Holes), u + d ≤ 6 → HI w1 h → HI w1 (fillUp h (64 * words) u d)
  | 0, u, h, _, H => H
  | d + 1, u, h, hu, H => by
    have h1 := p2mono (a := u + 1) (b := 6) (by omega)
    have e6 : (2 : Int) ^ 6 = 64 := by decide
    exact fillUp_HI h0 hw d (u + 1) _ (by omega) (H.put u (64 * words) (by omega) (by omega) (Int.dvd_trans (p2dvd (a := u) (b := 6) (by omega)) ⟨words, rfl⟩))
structure Found (words : Int) (h : Holes) (s : Nat) (r : Int × Int × Holes) : Prop where
  hi : HI r.2.1 r.2.2
  at0 : 0 ≤ r.1
  at1 : r.1 + 2 ^ s ≤ 64 * r.2.1
  dvd : (2 : Int) ^ s ∣ r.1
  grow : r.2.1 = words ∨ r.2.1 = words + 1
theorem findF_found {words : Int} {h : Holes} (H : HI words h) (h0 : 0 ≤ words) (s : Nat) (hs : s ≤ 5) : ∀ (d t : Nat), s ≤ t → t + d = 6 → Found words h s (findF words h s t d)
  | 0, t, _, _ => by
    have e6 : (2 : Int) ^ 6 = 64 := by decide
    have h1 := p2mono (a := s) (b := 6) (by omega)
    exact ⟨fillUp_HI h0 rfl _ _ _ (by omega) (H.mono (by show words ≤ words + 1; omega)), by show 0 ≤ 64 * words; omega, by show 64 * words + 2 ^ s ≤ 64 * (words + 1); omega, Int.dvd_trans (p2dvd (a := s) (b := 6) (by omega)) ⟨words, rfl⟩, .inr rfl⟩
  | d + 1, t, hst, ht => by
    unfold findF
    split
    · rename_i o ho
      obtain ⟨a, b, c⟩ := H t (by omega) o ho
      have hp := p2pos t
      have h1 := p2mono (a := s) (b := t) (by omega)
      exact ⟨halve_HI s (t - s) _ (H.none_ t) (by omega) (by rw [show s + (t - s) = t by omega]; exact b) (by rw [show s + (t - s) = t by omega]; exact c), by show 0 ≤ o; omega, by show o + 2 ^ s ≤ 64 * words; omega, Int.dvd_trans (p2dvd hst) c, .inl rfl⟩
    · exact findF_found H h0 s hs d (t + 1) (by omega) (by omega)
theorem findV_found {words : Int} {h : Holes} (H : HI words h) (h0 : 0 ≤ words) (s : Nat) (hs : s ≤ 6) : Found words h s (findV words h s) := by
  unfold findV
  split
  · have e : s = 6 := by omega
    subst e
    exact ⟨H.mono (by show words ≤ words + 1; omega), by show 0 ≤ 64 * words; omega, by show 64 * words + 2 ^ 6 ≤ 64 * (words + 1); omega, ⟨words, rfl⟩, .inr rfl⟩
  · exact findF_found H h0 s (by omega) _ s (Nat.le_refl _) (by omega)
/-- What holds of a plan of so many fields. -/
structure Inv (kw k : Nat) (p : PS) : Prop where
  hi : HI p.words p.h
  words : 0 ≤ p.words ∧ p.words ≤ kw
  ptrs : 0 ≤ p.ptrs ∧ p.ptrs ≤ k
  choices : 0 ≤ p.choices ∧ p.choices ≤ k
  point : -1 ≤ p.pointer ∧ p.pointer ≤ k
  many : p.rooms.length ≤ k
  rooms : ∀ r ∈ p.rooms, r.2 ≤ 6 ∧ 0 ≤ r.1 ∧ r.1 + 2 ^ r.2 ≤ 64 * p.words ∧ (2 : Int) ^ r.2 ∣ r.1
theorem Inv.new : Inv 0 0 PS.new := ⟨fun s hs v hv => by simp [PS.new] at hv, by decide, by decide, by decide, by decide, by simp [PS.new], fun r hr => by simp [PS.new] at hr⟩
theorem scl_le (x : Int) : scl x ≤ 6 := by
  unfold scl
  repeat' split
  all_goals omega
theorem firstRoom_mem {s : Nat} : ∀ {l : List (Int × Nat)} {r : Int × Nat}, firstRoom l s = some r → r ∈ l ∧ s ≤ r.2
  | [], r, h => by simp [firstRoom] at h
  | q :: l, r, h => by
    unfold firstRoom at h
    split at h
    · injection h with h; subst h; exact ⟨by simp, by assumption⟩
    · have := firstRoom_mem h; exact ⟨by simp [this.1], this.2⟩
theorem Inv.find {kw k : Nat} {p : PS} (H : Inv kw k p) (s : Nat) (hs : s ≤ 6) : Inv (kw + 1) k (findP p s).2 ∧ 0 ≤ (findP p s).1 ∧ (findP p s).1 + 2 ^ s ≤ 64 * (findP p s).2.words ∧ (2 : Int) ^ s ∣ (findP p s).1 := by
  have F := findV_found H.hi H.words.1 s hs
  have hw := H.words
  have hg := F.grow
  refine ⟨⟨F.hi, ?_, H.ptrs, H.choices, H.point, H.many, fun r hr => ?_⟩, F.at0, F.at1, F.dvd⟩
  · show 0 ≤ (findV p.words p.h s).2.1 ∧ (findV p.words p.h s).2.1 ≤ _
    omega
  · obtain ⟨a, b, c, d⟩ := H.rooms r hr
    refine ⟨a, b, ?_, d⟩
    show _ ≤ 64 * (findV p.words p.h s).2.1
    omega
theorem Inv.many_ {kw k k' : Nat} {p : PS} (H : Inv kw k p) (hk : k ≤ k') : Inv kw k' p :=
  ⟨H.hi, H.words, by have := H.ptrs; omega, by have := H.choices; omega, by have := H.point; omega, by have := H.many; omega, H.rooms⟩
theorem Inv.wide {kw kw' k : Nat} {p : PS} (H : Inv kw k p) (hk : kw ≤ kw') : Inv kw' k p :=
  ⟨H.hi, by have := H.words; omega, H.ptrs, H.choices, H.point, H.many, H.rooms⟩
theorem Inv.choose {kw k : Nat} {p : PS} (H : Inv kw k p) : Inv kw (k + 1) { p with choices := p.choices + 1 } :=
  ⟨H.hi, H.words, by have := H.ptrs; show 0 ≤ p.ptrs ∧ p.ptrs ≤ _; omega, by have := H.choices; show 0 ≤ p.choices + 1 ∧ p.choices + 1 ≤ _; omega, by have := H.point; show -1 ≤ p.pointer ∧ p.pointer ≤ _; omega, by have := H.many; show p.rooms.length ≤ _; omega, H.rooms⟩
theorem Inv.tag {kw k : Nat} {p : PS} (H : Inv kw k p) (t : Int) : Inv kw k { p with tag := t } := ⟨H.hi, H.words, H.ptrs, H.choices, H.point, H.many, H.rooms⟩
theorem tagP_eq (p : PS) : (tagP p).ptrs = p.ptrs ∧ (tagP p).pointer = p.pointer ∧ (tagP p).rooms = p.rooms ∧ (tagP p).choices = p.choices + 1 := by
  unfold tagP
  split
  · exact ⟨rfl, rfl, rfl, rfl⟩
  · exact ⟨rfl, rfl, rfl, rfl⟩
/-- Behind the tag: the numbers of pointers and rooms are still those of one field less. -/
theorem Inv.tagged {kw k : Nat} {p : PS} (H : Inv kw k p) : Inv (kw + 1) (k + 1) (tagP p) := by
  unfold tagP
  split
  · exact (H.choose.find 4 (by decide)).1.tag _
  · exact H.choose.wide (by omega)
theorem Inv.choice {kw k : Nat} {p : PS} (H : Inv kw k p) (size : Int) : Inv (kw + 2) (k + 1) (choiceP p size).2 ∧ 0 ≤ (choiceP p size).1 ∧ (size ≠ 6 → (2 : Int) ^ scl size ∣ (choiceP p size).1 ∧ (choiceP p size).1 + 2 ^ scl size ≤ 64 * (choiceP p size).2.words) := by
  have T := H.tagged
  obtain ⟨e1, e2, e3, e4⟩ := tagP_eq p
  unfold choiceP
  split
  · rename_i h6
    have hp := H.ptrs
    have hq := H.point
    unfold pointP
    split
    · refine ⟨⟨T.hi, (T.wide (by omega)).words, ?_, T.choices, ?_, T.many, T.rooms⟩, T.ptrs.1, fun h => absurd h6 h⟩
      · show 0 ≤ (tagP p).ptrs + 1 ∧ (tagP p).ptrs + 1 ≤ _; omega
      · show -1 ≤ (tagP p).ptrs ∧ (tagP p).ptrs ≤ _; omega
    · rename_i h
      exact ⟨T.wide (by omega), by show 0 ≤ (tagP p).pointer; omega, fun h => absurd h6 h⟩
  · unfold roomP
    split
    · rename_i r hr
      obtain ⟨a, b⟩ := firstRoom_mem hr
      obtain ⟨c, d, e, f⟩ := T.rooms r a
      have hm := p2mono b
      exact ⟨T.wide (by omega), d, fun _ => ⟨Int.dvd_trans (p2dvd b) f, by show r.1 + 2 ^ scl size ≤ 64 * (tagP p).words; omega⟩⟩
    · obtain ⟨F, f0, f1, fd⟩ := T.find (scl size) (scl_le size)
      have hm := H.many
      refine ⟨⟨F.hi, F.words, F.ptrs, F.choices, F.point, ?_, fun r hr => ?_⟩, f0, fun _ => ⟨fd, f1⟩⟩
      · show ((tagP p).rooms ++ [_]).length ≤ _
        rw [e3, List.length_append]
        show p.rooms.length + 1 ≤ _
        omega
      · rcases List.mem_append.mp hr with h | h
        · exact F.rooms r h
        · rcases List.mem_singleton.mp h with rfl
          exact ⟨scl_le size, f0, f1, fd⟩
theorem Inv.put {kw k : Nat} {p : PS} (H : Inv kw k p) (size : Int) (ch : Bool) : Inv (kw + 2) (k + 1) (putP p size ch).2 ∧ 0 ≤ (putP p size ch).1 := by
  have hp := p2pos (scl size)
  unfold putP
  split
  · obtain ⟨a, b, c⟩ := H.choice size
    split
    · exact ⟨a, b⟩
    · exact ⟨a, Int.ediv_nonneg b (by omega)⟩
  · split
    · refine ⟨⟨H.hi, (H.wide (by omega)).words, ?_, (H.many_ (Nat.le_succ k)).choices, (H.many_ (Nat.le_succ k)).point, (H.many_ (Nat.le_succ k)).many, H.rooms⟩, H.ptrs.1⟩
      have := H.ptrs
      show 0 ≤ p.ptrs + 1 ∧ p.ptrs + 1 ≤ _
      omega
    · obtain ⟨F, f0, f1, fd⟩ := H.find (scl size) (scl_le size)
      exact ⟨(F.wide (by omega)).many_ (by omega), Int.ediv_nonneg f0 (by omega)⟩
theorem Inv.lay : ∀ (l : List (Int × Bool)) {kw k : Nat} {p : PS}, Inv kw k p → Inv (kw + 2 * l.length) (k + l.length) (layP p l).2
  | [], kw, k, p, H => H
  | f :: l, kw, k, p, H => by
    have h := Inv.lay l (H.put f.1 f.2).1
    rw [show kw + 2 * (f :: l).length = kw + 2 + 2 * l.length by simp only [List.length_cons]; omega, show k + (f :: l).length = k + 1 + l.length by simp only [List.length_cons]; omega]
    exact h
end Go.Proofs.YtjjcepnadjociaaDoor.Lem
