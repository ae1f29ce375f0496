/- Where fields stand: what holds of all of them. -/
import Derived.Test.YtjjcepnadjociaaDoorLemLaid
namespace Go.Proofs.YtjjcepnadjociaaDoor.Lem
set_option linter.unusedVariables false
open Go Go.RowKit
/-- The blocks that are taken, each with its owner: 0 a room, 1 the tag, i + 2 the field i. -/
structure Led (W : Int) (h : Holes) (B : List ((Int × Nat) × Nat)) : Prop where
  gh : GH W (fun b => ∃ o, (b, o) ∈ B) h
  w0 : 0 ≤ W
  blk : ∀ x ∈ B, 0 ≤ x.1.1 ∧ x.1.1 + 2 ^ x.1.2 ≤ 64 * W
  disj : ∀ x ∈ B, ∀ y ∈ B, x = y ∨ Disj x.1 y.1
theorem Led.find {W : Int} {h : Holes} {B : List ((Int × Nat) × Nat)} (H : Led W h B) (s : Nat) (hs : s ≤ 6) (o : Nat) :
    Led (findV W h s).2.1 (findV W h s).2.2 ((((findV W h s).1, s), o) :: B) ∧ W ≤ (findV W h s).2.1 ∧ (findV W h s).2.1 ≤ W + 1 ∧ (2 : Int) ^ s ∣ (findV W h s).1 ∧ 0 ≤ (findV W h s).1 := by
  obtain ⟨T, hw, hw1⟩ := findV_took H.gh H.w0 (fun b hb => by obtain ⟨o, hb⟩ := hb; exact (H.blk _ hb).2) s hs
  have h0 := H.w0
  refine ⟨⟨T.gh.less (fun b hb => ?_), by omega, fun x hx => ?_, fun x hx y hy => ?_⟩, hw, hw1, T.dvd, T.low⟩
  · obtain ⟨o', hb⟩ := hb
    rcases List.mem_cons.mp hb with e | hb
    · injection e with e1 e2
      exact .inr e1
    · exact .inl ⟨o', hb⟩
  · rcases List.mem_cons.mp hx with rfl | hx
    · exact ⟨T.low, T.high⟩
    · obtain ⟨a, b⟩ := H.blk x hx
      exact ⟨a, by omega⟩
  · rcases List.mem_cons.mp hx with rfl | hx
    · rcases List.mem_cons.mp hy with rfl | hy
      · exact .inl rfl
      · exact .inr (T.new y.1 ⟨y.2, hy⟩).symm
    · rcases List.mem_cons.mp hy with rfl | hy
      · exact .inr (T.new x.1 ⟨x.2, hx⟩)
      · exact H.disj x hx y hy
/-- A field's block. -/
def blkE (e : (Int × Bool) × Int) : Int × Nat := (e.2 * 2 ^ scl e.1.1, scl e.1.1)
abbrev FL := List ((Int × Bool) × Int)
structure FInv (p : PS) (B : List ((Int × Nat) × Nat)) (L : FL) : Prop where
  led : Led p.words p.h B
  rooms : ∀ r ∈ p.rooms, (r, 0) ∈ B
  tag : 0 ≤ p.tag → ((16 * p.tag, 4), 1) ∈ B
  field : ∀ (i : Nat) e, L[i]? = some e → e.1.1 ≠ 6 → e.1.2 = false → (blkE e, i + 2) ∈ B
  choice : ∀ (i : Nat) e, L[i]? = some e → e.1.1 ≠ 6 → e.1.2 = true → ∃ r, (r, 0) ∈ B ∧ (blkE e).1 = r.1 ∧ scl e.1.1 ≤ r.2
  ptr : ∀ (i : Nat) e, L[i]? = some e → e.1.1 = 6 → e.1.2 = false → 0 ≤ e.2 ∧ e.2 < p.ptrs ∧ e.2 ≠ p.pointer
  ptrc : ∀ (i : Nat) e, L[i]? = some e → e.1.1 = 6 → e.1.2 = true → e.2 = p.pointer ∧ 0 ≤ p.pointer
  ptrD : ∀ (i k : Nat) e e', L[i]? = some e → L[k]? = some e' → i ≠ k → e.1.1 = 6 → e'.1.1 = 6 → e.1.2 = false → e'.1.2 = false → e.2 ≠ e'.2
  point : -1 ≤ p.pointer ∧ p.pointer < p.ptrs
  tagn : (p.choices < 2 → p.tag = -1) ∧ (2 ≤ p.choices → 0 ≤ p.tag)
theorem FInv.new : FInv PS.new [] [] := by
  refine ⟨⟨⟨fun s hs v hv => ?_, fun b hb => ?_, fun s t hs ht hst v u hv => ?_⟩, Int.le_refl _, fun x hx => (by cases hx), fun x hx => (by cases hx)⟩, fun r hr => (by cases hr), fun h => absurd h (by decide), ?_, ?_, ?_, ?_, ?_, by decide, ⟨fun _ => rfl, fun h => absurd h (by decide)⟩⟩
  · cases hv
  · obtain ⟨_, hb⟩ := hb
    cases hb
  · cases hv
  all_goals (intros; simp_all)
/-- A state of more blocks, as the elder fields see it. -/
theorem mulE {x : Int} {s : Nat} (h : (2 : Int) ^ s ∣ x) : x / 2 ^ s * 2 ^ s = x := Int.ediv_mul_cancel h
theorem get_snoc {α : Type} {L : List α} {e x : α} {i : Nat} (h : (L ++ [e])[i]? = some x) : L[i]? = some x ∨ (i = L.length ∧ x = e) := by
  rcases Nat.lt_trichotomy i L.length with hl | hl | hl
  · rw [List.getElem?_append_left hl] at h
    exact .inl h
  · subst hl
    rw [List.getElem?_append_right (Nat.le_refl _), Nat.sub_self] at h
    exact .inr ⟨rfl, by injection h with h; exact h.symm⟩
  · rw [List.getElem?_eq_none (by simp; omega)] at h
    cases h
theorem FInv.tagged {p : PS} {B : List ((Int × Nat) × Nat)} {L : FL} (H : FInv p B L) (hc : 0 ≤ p.choices) : ∃ B', FInv (tagP p) B' L ∧ (tagP p).choices = p.choices + 1 := by
  unfold tagP
  split
  · rename_i h2
    obtain ⟨D, hw, hw1, dv, l0⟩ := H.led.find 4 (by decide) 1
    refine ⟨_, ⟨D, fun r hr => List.mem_cons_of_mem _ (H.rooms r hr), fun _ => ?_, fun i e he h1 h2 => List.mem_cons_of_mem _ (H.field i e he h1 h2), fun i e he h1 h2 => ?_, H.ptr, H.ptrc, H.ptrD, H.point, ⟨fun h => ?_, fun _ => ?_⟩⟩, rfl⟩
    · have e : 16 * ((findV p.words p.h 4).1 / 16) = (findV p.words p.h 4).1 := Int.mul_ediv_cancel' dv
      show ((16 * ((findV p.words p.h 4).1 / 16), 4), 1) ∈ _
      rw [e]
      exact List.mem_cons_self
    · obtain ⟨r, a, b⟩ := H.choice i e he h1 h2
      exact ⟨r, List.mem_cons_of_mem _ a, b⟩
    · have h' : p.choices + 1 < 2 := h
      omega
    · show 0 ≤ (findV p.words p.h 4).1 / 16
      omega
  · rename_i h2
    exact ⟨B, ⟨H.led, H.rooms, H.tag, H.field, H.choice, H.ptr, H.ptrc, H.ptrD, H.point, ⟨fun h => H.tagn.1 (by have h' : p.choices + 1 < 2 := h; omega), fun h => H.tagn.2 (by have h' : 2 ≤ p.choices + 1 := h; omega)⟩⟩, rfl⟩
theorem FInv.putData {p : PS} {B : List ((Int × Nat) × Nat)} {L : FL} (H : FInv p B L) (size : Int) (h6 : size ≠ 6) : ∃ B', FInv (findP p (scl size)).2 B' (L ++ [((size, false), (findP p (scl size)).1 / 2 ^ scl size)]) := by
  obtain ⟨D, hw, hw1, dv, l0⟩ := H.led.find (scl size) (scl_le size) (L.length + 2)
  refine ⟨_, ⟨D, fun r hr => List.mem_cons_of_mem _ (H.rooms r hr), fun h => List.mem_cons_of_mem _ (H.tag h), fun i e he h1 h2 => ?_, fun i e he h1 h2 => ?_, fun i e he h1 h2 => ?_, fun i e he h1 h2 => ?_, fun i k e e' he he' hik h1 h1' => ?_, H.point, H.tagn⟩⟩
  · rcases get_snoc he with he | ⟨rfl, rfl⟩
    · exact List.mem_cons_of_mem _ (H.field i e he h1 h2)
    · refine List.mem_cons.mpr (.inl ?_)
      show (((findV p.words p.h (scl size)).1 / 2 ^ scl size * 2 ^ scl size, scl size), L.length + 2) = _
      rw [mulE dv]
  · rcases get_snoc he with he | ⟨rfl, rfl⟩
    · obtain ⟨r, a, b⟩ := H.choice i e he h1 h2
      exact ⟨r, List.mem_cons_of_mem _ a, b⟩
    · cases h2
  · rcases get_snoc he with he | ⟨rfl, rfl⟩
    · exact H.ptr i e he h1 h2
    · exact absurd h1 h6
  · rcases get_snoc he with he | ⟨rfl, rfl⟩
    · exact H.ptrc i e he h1 h2
    · cases h2
  · rcases get_snoc he with he | ⟨rfl, rfl⟩
    · rcases get_snoc he' with he' | ⟨rfl, rfl⟩
      · exact H.ptrD i k e e' he he' hik h1 h1'
      · exact absurd h1' h6
    · exact absurd h1 h6
theorem FInv.putRoom {q : PS} {B : List ((Int × Nat) × Nat)} {L : FL} (H : FInv q B L) (size : Int) (h6 : size ≠ 6) (hal : ∀ r ∈ q.rooms, (2 : Int) ^ r.2 ∣ r.1) : ∃ B', FInv (roomP q (scl size)).2 B' (L ++ [((size, true), (roomP q (scl size)).1 / 2 ^ scl size)]) := by
  have rest : ∀ (q' : PS) (B' : List ((Int × Nat) × Nat)) (x : Int), (∀ y ∈ B, y ∈ B') → Led q'.words q'.h B' → (∀ r ∈ q'.rooms, (r, 0) ∈ B') → q'.tag = q.tag → q'.ptrs = q.ptrs → q'.pointer = q.pointer → q'.choices = q.choices → (∃ r, (r, 0) ∈ B' ∧ x / 2 ^ scl size * 2 ^ scl size = r.1 ∧ scl size ≤ r.2) → FInv q' B' (L ++ [((size, true), x / 2 ^ scl size)]) := by
    intro q' B' x hB hD hr e1 e2 e3 e4 hx
    refine ⟨hD, hr, fun h => ?_, fun i e he h1 h2 => ?_, fun i e he h1 h2 => ?_, fun i e he h1 h2 => ?_, fun i e he h1 h2 => ?_, fun i k e e' he he' hik h1 h1' => ?_, ?_, ?_⟩
    · rw [e1] at h ⊢
      exact hB _ (H.tag h)
    · rcases get_snoc he with he | ⟨rfl, rfl⟩
      · exact hB _ (H.field i e he h1 h2)
      · cases h2
    · rcases get_snoc he with he | ⟨rfl, rfl⟩
      · obtain ⟨r, a, b⟩ := H.choice i e he h1 h2
        exact ⟨r, hB _ a, b⟩
      · exact hx
    · rw [e2, e3]
      rcases get_snoc he with he | ⟨rfl, rfl⟩
      · exact H.ptr i e he h1 h2
      · exact absurd h1 h6
    · rw [e3]
      rcases get_snoc he with he | ⟨rfl, rfl⟩
      · exact H.ptrc i e he h1 h2
      · exact absurd h1 h6
    · rcases get_snoc he with he | ⟨rfl, rfl⟩
      · rcases get_snoc he' with he' | ⟨rfl, rfl⟩
        · exact H.ptrD i k e e' he he' hik h1 h1'
        · exact absurd h1' h6
      · exact absurd h1 h6
    · rw [e2, e3]; exact H.point
    · rw [e1, e4]; exact H.tagn
  unfold roomP
  split
  · rename_i r hr
    obtain ⟨a, b⟩ := firstRoom_mem hr
    exact ⟨B, rest q B r.1 (fun y hy => hy) H.led H.rooms rfl rfl rfl rfl ⟨r, H.rooms r a, mulE (Int.dvd_trans (p2dvd b) (hal r a)), b⟩⟩
  · obtain ⟨D, hw, hw1, dv, l0⟩ := H.led.find (scl size) (scl_le size) 0
    refine ⟨_, rest _ _ (findP q (scl size)).1 (fun y hy => List.mem_cons_of_mem _ hy) D (fun r hr => ?_) rfl rfl rfl rfl ⟨((findP q (scl size)).1, scl size), List.mem_cons_self, mulE dv, Nat.le_refl _⟩⟩
    rcases List.mem_append.mp hr with hr | hr
    · exact List.mem_cons_of_mem _ (H.rooms r hr)
    · rcases List.mem_singleton.mp hr with rfl
      exact List.mem_cons_self
theorem FInv.put {kw k : Nat} {p : PS} {B : List ((Int × Nat) × Nat)} {L : FL} (H : FInv p B L) (hi : Inv kw k p) (f : Int × Bool) : ∃ B', FInv (putP p f.1 f.2).2 B' (L ++ [(f, (putP p f.1 f.2).1)]) := by
  obtain ⟨size, ch⟩ := f
  have hpt := hi.ptrs
  cases ch with
  | false =>
    by_cases h6 : size = 6
    · have e : putP p size false = (p.ptrs, { p with ptrs := p.ptrs + 1 }) := by unfold putP; rw [if_neg (by decide), if_pos h6]
      simp only [e]
      obtain ⟨g0, g1⟩ := H.point
      refine ⟨B, ⟨H.led, H.rooms, H.tag, fun i e he h1 h2 => ?_, fun i e he h1 h2 => ?_, fun i e he h1 h2 => ?_, fun i e he h1 h2 => ?_, fun i k e e' he he' hik h1 h1' h2 h2' => ?_, ⟨g0, by show p.pointer < p.ptrs + 1; omega⟩, H.tagn⟩⟩
      · rcases get_snoc he with he | ⟨rfl, rfl⟩
        · exact H.field i e he h1 h2
        · exact absurd h6 h1
      · rcases get_snoc he with he | ⟨rfl, rfl⟩
        · exact H.choice i e he h1 h2
        · exact absurd h6 h1
      · rcases get_snoc he with he | ⟨rfl, rfl⟩
        · obtain ⟨a, b, c⟩ := H.ptr i e he h1 h2
          exact ⟨a, by show e.2 < p.ptrs + 1; omega, c⟩
        · exact ⟨hpt.1, by show p.ptrs < p.ptrs + 1; omega, by show p.ptrs ≠ p.pointer; omega⟩
      · rcases get_snoc he with he | ⟨rfl, rfl⟩
        · exact H.ptrc i e he h1 h2
        · cases h2
      · rcases get_snoc he with he | ⟨rfl, rfl⟩
        · rcases get_snoc he' with he' | ⟨rfl, rfl⟩
          · exact H.ptrD i k e e' he he' hik h1 h1' h2 h2'
          · have := (H.ptr i e he h1 h2).2.1
            show e.2 ≠ p.ptrs
            omega
        · rcases get_snoc he' with he' | ⟨rfl, rfl⟩
          · have := (H.ptr k e' he' h1' h2').2.1
            show p.ptrs ≠ e'.2
            omega
          · exact absurd rfl hik
    · have e : putP p size false = ((findP p (scl size)).1 / 2 ^ scl size, (findP p (scl size)).2) := by unfold putP; rw [if_neg (by decide), if_neg h6]
      simp only [e]
      exact H.putData size h6
  | true =>
    obtain ⟨B1, HT, hc⟩ := H.tagged hi.choices.1
    obtain ⟨e1, e2, e3, e4⟩ := tagP_eq p
    by_cases h6 : size = 6
    · have e : putP p size true = pointP (tagP p) := by unfold putP; rw [if_pos rfl, if_pos h6]; unfold choiceP; rw [if_pos h6]
      simp only [e]
      generalize tagP p = q at *
      obtain ⟨g0, g1⟩ := HT.point
      unfold pointP
      split
      · rename_i hn
        refine ⟨B1, ⟨HT.led, HT.rooms, HT.tag, fun i e he h1 h2 => ?_, fun i e he h1 h2 => ?_, fun i e he h1 h2 => ?_, fun i e he h1 h2 => ?_, fun i k e e' he he' hik h1 h1' h2 h2' => ?_, ⟨by show -1 ≤ q.ptrs; omega, by show q.ptrs < q.ptrs + 1; omega⟩, HT.tagn⟩⟩
        · rcases get_snoc he with he | ⟨rfl, rfl⟩
          · exact HT.field i e he h1 h2
          · exact absurd h6 h1
        · rcases get_snoc he with he | ⟨rfl, rfl⟩
          · exact HT.choice i e he h1 h2
          · exact absurd h6 h1
        · rcases get_snoc he with he | ⟨rfl, rfl⟩
          · obtain ⟨a, b, c⟩ := HT.ptr i e he h1 h2
            exact ⟨a, by show e.2 < q.ptrs + 1; omega, by show e.2 ≠ q.ptrs; omega⟩
          · cases h2
        · rcases get_snoc he with he | ⟨rfl, rfl⟩
          · obtain ⟨a, b⟩ := HT.ptrc i e he h1 h2
            omega
          · exact ⟨rfl, by show 0 ≤ q.ptrs; omega⟩
        · rcases get_snoc he with he | ⟨rfl, rfl⟩
          · rcases get_snoc he' with he' | ⟨rfl, rfl⟩
            · exact HT.ptrD i k e e' he he' hik h1 h1' h2 h2'
            · cases h2'
          · cases h2
      · rename_i hn
        refine ⟨B1, ⟨HT.led, HT.rooms, HT.tag, fun i e he h1 h2 => ?_, fun i e he h1 h2 => ?_, fun i e he h1 h2 => ?_, fun i e he h1 h2 => ?_, fun i k e e' he he' hik h1 h1' h2 h2' => ?_, ⟨g0, g1⟩, HT.tagn⟩⟩
        · rcases get_snoc he with he | ⟨rfl, rfl⟩
          · exact HT.field i e he h1 h2
          · exact absurd h6 h1
        · rcases get_snoc he with he | ⟨rfl, rfl⟩
          · exact HT.choice i e he h1 h2
          · exact absurd h6 h1
        · rcases get_snoc he with he | ⟨rfl, rfl⟩
          · exact HT.ptr i e he h1 h2
          · cases h2
        · rcases get_snoc he with he | ⟨rfl, rfl⟩
          · exact HT.ptrc i e he h1 h2
          · exact ⟨rfl, by show 0 ≤ q.pointer; omega⟩
        · rcases get_snoc he with he | ⟨rfl, rfl⟩
          · rcases get_snoc he' with he' | ⟨rfl, rfl⟩
            · exact HT.ptrD i k e e' he he' hik h1 h1' h2 h2'
            · cases h2'
          · cases h2
    · have e : putP p size true = ((roomP (tagP p) (scl size)).1 / 2 ^ scl size, (roomP (tagP p) (scl size)).2) := by unfold putP; rw [if_pos rfl, if_neg h6]; unfold choiceP; rw [if_neg h6]
      simp only [e]
      exact HT.putRoom size h6 (fun r hr => (hi.tagged.rooms r hr).2.2.2)
/-- The fields, laid. -/
def zipL (l : List (Int × Bool)) (xs : List Int) : FL := l.zip xs
theorem FInv.lay : ∀ (l : List (Int × Bool)) {kw k : Nat} {p : PS} {B : List ((Int × Nat) × Nat)} {L : FL}, Inv kw k p → FInv p B L → ∃ B', FInv (layP p l).2 B' (L ++ zipL l (layP p l).1)
  | [], kw, k, p, B, L, hi, H => ⟨B, by simpa [zipL, layP] using H⟩
  | f :: l, kw, k, p, B, L, hi, H => by
    obtain ⟨B1, H1⟩ := H.put hi f
    obtain ⟨B2, H2⟩ := FInv.lay l (hi.put f.1 f.2).1 H1
    refine ⟨B2, ?_⟩
    have e : L ++ zipL (f :: l) (layP p (f :: l)).1 = L ++ [(f, (putP p f.1 f.2).1)] ++ zipL l (layP (putP p f.1 f.2).2 l).1 := by simp [zipL, layP]
    rw [e]
    exact H2
theorem lay_finv (l : List (Int × Bool)) : ∃ B, FInv (layP PS.new l).2 B (zipL l (layP PS.new l).1) := by
  obtain ⟨B, h⟩ := FInv.lay l Inv.new FInv.new
  exact ⟨B, by simpa using h⟩
end Go.Proofs.YtjjcepnadjociaaDoor.Lem
