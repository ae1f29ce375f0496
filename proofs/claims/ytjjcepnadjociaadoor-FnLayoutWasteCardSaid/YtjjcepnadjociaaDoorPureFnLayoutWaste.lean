/- Without choices less than a word is left unused: the pure statement. -/
import Derived.Test.YtjjcepnadjociaaDoorLemLayoutAll
import Derived.Test.YtjjcepnadjociaaDoorPureFnLayoutBits
import Derived.Test.YtjjcepnadjociaaDoorPx22
namespace Go.Proofs.YtjjcepnadjociaaDoor.Pure
set_option linter.unusedVariables false
open Go Go.RowKit Go.Proofs.YtjjcepnadjociaaDoor Go.Proofs.YtjjcepnadjociaaDoor.P Go.Proofs.YtjjcepnadjociaaDoor.Lem Go.Proofs.YtjjcepnadjociaaDoorW.PrintWords Go.Proofs.YtjjcepnadjociaaDoorW.PrintLast
theorem nBits_snoc (f : Int × Bool) : ∀ l : List (Int × Bool), nBits (l ++ [f]) = nBits l + (if f.1 = 6 then 0 else 2 ^ scl f.1)
  | [] => by simp [nBits]
  | g :: l => by simp only [List.cons_append, nBits, nBits_snoc f l]; omega
theorem nPoint_snoc (f : Int × Bool) : ∀ l : List (Int × Bool), nPoint (l ++ [f]) = nPoint l + (if f.1 = 6 then 1 else 0)
  | [] => by simp [nPoint]
  | g :: l => by simp only [List.cons_append, nPoint, nPoint_snoc f l]; omega
theorem nBits_range (l : List (Int × Bool)) : 0 ≤ nBits l ∧ nBits l ≤ 64 * l.length := by
  induction l with
  | nil => simp [nBits]
  | cons f l ih =>
    have h1 := p2pos (scl f.1)
    have h2 := p2mono (scl_le f.1)
    have e6 : (2 : Int) ^ 6 = 64 := by decide
    have e : nBits (f :: l) = (if f.1 = 6 then 0 else 2 ^ scl f.1) + nBits l := rfl
    rw [e, List.length_cons]
    split <;> omega
theorem nPoint_range (l : List (Int × Bool)) : 0 ≤ nPoint l ∧ nPoint l ≤ l.length := by
  induction l with
  | nil => simp [nPoint]
  | cons f l ih =>
    rw [nPoint_cons, List.length_cons]
    split <;> omega
/-- The fields that are no choices. -/
def plain (l : List S27) : List S27 := l.filter fun f => !f.f1
theorem plain_ok {l : List S27} (h : okF l = true) : okF (plain l) = true := by
  unfold okF at h ⊢
  rw [Bool.and_eq_true, decide_eq_true_eq, Bool.not_eq_true', List.any_eq_false] at h ⊢
  have := List.length_filter_le (fun f : S27 => !f.f1) l
  refine ⟨by unfold plain; omega, fun f hf => h.2 f ((List.mem_filter.mp hf).1)⟩
theorem plain_choice (l : List S27) : ∀ f ∈ (plain l).map fieldP, f.2 = false := by
  intro f hf
  obtain ⟨g, hg, rfl⟩ := List.mem_map.mp hf
  have := (List.mem_filter.mp hg).2
  simpa [fieldP] using this
theorem plain_lay (l : List S27) : (layS (plain l)).2.ptrs = nPoint ((plain l).map fieldP) ∧ nBits ((plain l).map fieldP) ≤ 64 * (layS (plain l)).2.words ∧ 64 * (layS (plain l)).2.words - nBits ((plain l).map fieldP) < 64 ∧ (layS (plain l)).2.tag = -1 := by
  obtain ⟨a, b, c⟩ := lay_waste ((plain l).map fieldP) PS.new (plain_choice l)
  have h0 := hsum_nonneg (layS (plain l)).2.h 6
  have h1 := hsum_lt (layS (plain l)).2.h 6
  have e6 : (2 : Int) ^ 6 = 64 := by decide
  have hn : hsum PS.new.h 6 = 0 := by decide
  have hw : PS.new.words = 0 := rfl
  have hp : PS.new.ptrs = 0 := rfl
  have a' : 64 * (layS (plain l)).2.words - hsum (layS (plain l)).2.h 6 = 64 * PS.new.words - hsum PS.new.h 6 + nBits ((plain l).map fieldP) := a
  have b' : (layS (plain l)).2.ptrs = PS.new.ptrs + nPoint ((plain l).map fieldP) := b
  exact ⟨by rw [b', hp]; omega, by omega, by omega, c⟩
theorem waste_l0 (t : List S27) (hok : okF t = true) : ∀ (n i k : Nat), i + n = t.length → n + 2 < k →
    laws_FnLayoutWaste.l0 k t (plain (t.take i)) (nBits ((plain (t.take i)).map fieldP)) (nPoint ((plain (t.take i)).map fieldP)) (i : Int) = some true := by
  have hG := okF_good hok
  have hlen := hG.1
  intro n
  induction n with
  | zero =>
    intro i k hi hk
    obtain ⟨k, rfl⟩ : ∃ m, k = m + 1 := ⟨k - 1, by omega⟩
    simp only [laws_FnLayoutWaste.l0]
    rw [if_neg (by omega), List.take_of_length_le (by omega), implOf_ok (plain_ok hok)]
    obtain ⟨a, b, c, d⟩ := plain_lay t
    have hl := List.length_filter_le (fun f : S27 => !f.f1) t
    have hr := nBits_range ((plain t).map fieldP)
    have hl2 : ((plain t).map fieldP).length ≤ 12 := by rw [List.length_map]; unfold plain; omega
    rw [Option.bind_some]
    show (if true = true then (if (layS (plain t)).2.ptrs = nPoint ((plain t).map fieldP) then (if (wrap64 (64 * (layS (plain t)).2.words)) ≥ nBits ((plain t).map fieldP) then (if (wrap64 ((wrap64 (64 * (layS (plain t)).2.words)) - nBits ((plain t).map fieldP))) < 64 then (some ((layS (plain t)).2.tag == (-1))) else (some false)) else (some false)) else (some false)) else (some false)) = some true
    rw [if_pos rfl, if_pos a, wrap64_id (n := 64 * (layS (plain t)).2.words) (by omega) (by omega), wrap64_id (n := 64 * (layS (plain t)).2.words - nBits ((plain t).map fieldP)) (by omega) (by omega), if_pos b, if_pos c, d]
    rfl
  | succ n ih =>
    intro i k hi hk
    obtain ⟨k, rfl⟩ : ∃ m, k = m + 1 := ⟨k - 1, by omega⟩
    have hlt : i < t.length := by omega
    have hs := sizeAt_good hG i hlt
    have ew : wrap64 ((i : Int) + 1) = ((i + 1 : Nat) : Int) := by rw [wrap64_id (by omega) (by omega)]; omega
    have etk : t.take (i + 1) = t.take i ++ [rd_T27 t (i : Int)] := by rw [rdI t i hlt, List.take_succ_eq_append_getElem hlt]
    have ih' := ih (i + 1) k (by omega) (by omega)
    simp only [laws_FnLayoutWaste.l0]
    rw [if_pos (by omega), if_pos (by omega), ew]
    by_cases hc : (rd_T27 t (i : Int)).f1 = true
    · rw [if_pos hc]
      have e : plain (t.take (i + 1)) = plain (t.take i) := by
        unfold plain
        rw [etk, List.filter_append]
        simp [hc]
      rw [e] at ih'
      exact ih'
    · have e : plain (t.take (i + 1)) = plain (t.take i) ++ [rd_T27 t (i : Int)] := by
        unfold plain
        rw [etk, List.filter_append]
        simp [hc]
      have eP : (plain (t.take (i + 1))).map fieldP = (plain (t.take i)).map fieldP ++ [(sizeAt t i, (rd_T27 t (i : Int)).f1)] := by rw [e, List.map_append]; rfl
      have hl := List.length_filter_le (fun f : S27 => !f.f1) (t.take i)
      have hl1 : (plain (t.take i)).length ≤ 12 := by
        have := List.length_take (i := i) (l := t)
        unfold plain; omega
      have hr := nBits_range ((plain (t.take i)).map fieldP)
      have hq := nPoint_range ((plain (t.take i)).map fieldP)
      rw [List.length_map] at hr hq
      rw [if_neg hc, if_pos (by omega), Option.bind_some]
      rw [eP, nBits_snoc, nPoint_snoc, e] at ih'
      by_cases h6 : sizeAt t i = 6
      · rw [if_pos h6, if_pos h6] at ih'
        have h6' : (rd_T27 t (i : Int)).f0 = 6 := h6
        rw [if_pos h6', wrap64_id (n := nPoint ((plain (t.take i)).map fieldP) + 1) (by omega) (by omega)]
        rw [Int.add_zero] at ih'
        exact ih'
      · rw [if_neg h6, if_neg h6, Int.add_zero] at ih'
        have h6' : ¬ (rd_T27 t (i : Int)).f0 = 6 := h6
        have h1 : 0 ≤ (rd_T27 t (i : Int)).f0 := by have := hs.1; show 0 ≤ sizeAt t i; omega
        have h2 : (rd_T27 t (i : Int)).f0 < 6 := by show sizeAt t i < 6; omega
        have hb := bitsOf_range (sizeAt t i)
        have eb : rd [0, 1, 8, 16, 32, 64] (rd_T27 t (i : Int)).f0 = bitsOf (sizeAt t i) := bits_rd _ ⟨hs.1, by omega⟩
        rw [← scl_bits _ ⟨hs.1, by omega⟩] at ih'
        rw [if_neg h6', Option.bind_some, if_pos h1, if_pos (show (rd_T27 t (i : Int)).f0 < (([0, 1, 8, 16, 32, 64] : List Int).length : Int) from h2), eb, wrap64_id (n := nBits ((plain (t.take i)).map fieldP) + bitsOf (sizeAt t i)) (by omega) (by omega)]
        exact ih'
theorem FnLayoutWaste_ (l : List Int) (h : ∀ x ∈ l, (Lit.int .u8 x).wf = true) : ∃ k, laws_FnLayoutWaste.f k l = some true := by
  obtain ⟨k, hk⟩ : ∃ k : Nat, 50 ≤ k := ⟨50, Nat.le_refl _⟩
  refine ⟨k, ?_⟩
  unfold laws_FnLayoutWaste.f
  by_cases hc : (l.length : Int) > 1048576
  · rw [if_pos hc]
  · obtain ⟨t, hd, ht⟩ := drawOf_f l h k (by omega)
    rw [if_neg hc, hd, Option.bind_some]
    obtain ⟨k, rfl⟩ : ∃ m, k = m + 1 := ⟨k - 1, by omega⟩
    rw [specOf_f t (by omega) (k + 1) (by omega)]
    by_cases hok : okF t = true
    · rw [implOf_ok hok, Option.bind_some, Option.bind_some]
      simp only [bne_self_eq_false, Bool.false_eq_true, if_false]
      rw [qn_f _ _ _ _ (by rw [slotsOf_length]; omega) (k + 1) (by rw [slotsOf_length]; omega), Option.bind_some, if_pos rfl]
      simp only [laws_FnLayoutWaste.j0]
      rw [if_neg (by decide)]
      exact waste_l0 t hok t.length 0 k (by omega) (by omega)
    · have hno : okF t = false := by simpa using hok
      rw [implOf_no hno, Option.bind_some, Option.bind_some]
      simp only [bne_self_eq_false, Bool.false_eq_true, if_false]
      rw [qn_f _ _ _ _ (by simp) (k + 1) (by simp; omega), Option.bind_some, if_pos rfl]
      simp only [laws_FnLayoutWaste.j0]
      rw [if_pos (by decide), if_pos (by decide), qn_f _ _ _ _ (by simp) k (by simp; omega)]
      rfl
theorem FnLayoutWaste : laws_FnLayoutWaste.Pure := fun l _ _ h => FnLayoutWaste_ l h
end Go.Proofs.YtjjcepnadjociaaDoor.Pure
