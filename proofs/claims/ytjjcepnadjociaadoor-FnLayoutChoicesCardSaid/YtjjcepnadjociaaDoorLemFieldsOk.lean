/- Fields: the copies that the law makes, the comparison of two lists, and the two checks, in plain terms. -/
import Derived.Test.YtjjcepnadjociaaDoorLemListWords
import Derived.Test.YtjjcepnadjociaaDoorStubFieldsOk
import Derived.Test.YtjjcepnadjociaaDoorPx12
import Derived.Test.YtjjcepnadjociaaDoorPx14
import Derived.Test.YtjjcepnadjociaaDoorPx15
import Derived.Test.YtjjcepnadjociaaDoorPx16
import Derived.Test.YtjjcepnadjociaaDoorPx17
import Derived.Test.YtjjcepnadjociaaDoorPx8
import Derived.Test.YtjjcepnadjociaaDoorPx9
namespace Go.Proofs.YtjjcepnadjociaaDoor.Lem
set_option linter.unusedVariables false
set_option linter.unusedSimpArgs false
open Go Go.RowKit Go.Proofs.YtjjcepnadjociaaDoor Go.Proofs.YtjjcepnadjociaaDoor.P Go.Proofs.YtjjcepnadjociaaDoorW.PrintWords Go.Proofs.YtjjcepnadjociaaDoorW.PrintLast Go.Proofs.YtjjcepnadjociaaDoorW.PrintMore
/-- The law's own field, as the program's. -/
def conv (s : S61) : S27 := ⟨s.f0, s.f1, s.f2⟩
theorem rdL (l : List S61) (i : Nat) (h : i < l.length) : rd_T61 l (i : Int) = l[i] := by
  unfold rd_T61
  rw [Int.toNat_natCast, List.getD_eq_getElem?_getD, List.getElem?_eq_getElem h, Option.getD_some]
theorem rdI (l : List S27) (i : Nat) (h : i < l.length) : rd_T27 l (i : Int) = l[i] := by
  unfold rd_T27
  rw [Int.toNat_natCast, List.getD_eq_getElem?_getD, List.getElem?_eq_getElem h, Option.getD_some]
theorem sz_f (l : List S61) (hl : l.length ≤ maxLen) : ∃ r, laws_szFieldS.f l 1048576 = some r ∧ (0 ≤ r → l.length ≤ 1048576) := by
  have hm : maxLen = 9223372036854775807 := rfl
  unfold laws_szFieldS.f
  rw [wrap64_id (n := 1048576 - (l.length : Int)) (by omega) (by omega)]
  by_cases h : (1048576 : Int) - (l.length : Int) < 0
  · rw [if_pos h]; exact ⟨_, rfl, fun h => by omega⟩
  · rw [if_neg h]; exact ⟨_, rfl, fun h => by omega⟩
theorem to_l0 (l : List S61) (hl : l.length ≤ 1048576) : ∀ (n i k : Nat) (acc : List S27), i + n = l.length → n < k → acc.length = l.length → acc.take i = (l.take i).map conv →
    laws_toFieldS.l0 k l acc (i : Int) = some (l.map conv) := by
  intro n
  induction n with
  | zero =>
    intro i k acc hi hk ha ht
    obtain ⟨k, rfl⟩ : ∃ m, k = m + 1 := ⟨k - 1, by omega⟩
    simp only [laws_toFieldS.l0]
    rw [if_neg (by omega)]
    rw [List.take_of_length_le (by omega), List.take_of_length_le (by omega)] at ht
    rw [ht]
  | succ n ih =>
    intro i k acc hi hk ha ht
    obtain ⟨k, rfl⟩ : ∃ m, k = m + 1 := ⟨k - 1, by omega⟩
    simp only [laws_toFieldS.l0, laws_toField.f, Option.bind_some]
    rw [if_pos (by omega), if_pos (by omega), if_pos (by omega), wrap64_id (n := (i : Int) + 1) (by omega) (by omega), rdL l i (by omega)]
    have e : (i : Int) + 1 = ((i + 1 : Nat) : Int) := by omega
    rw [e, Int.toNat_natCast]
    refine ih (i + 1) k _ (by omega) (by omega) (by simpa using ha) ?_
    rw [List.take_succ_eq_append_getElem (by simp; omega), List.take_succ_eq_append_getElem (by omega), List.map_append, List.take_set_of_le (Nat.le_refl _), ht]
    simp [conv]
theorem to_f (l : List S61) (hl : l.length ≤ 1048576) (k : Nat) (hk : l.length < k) : laws_toFieldS.f k l = some (l.map conv) := by
  unfold laws_toFieldS.f
  rw [if_pos (by omega), Int.toNat_natCast, if_pos (by omega)]
  exact to_l0 l hl l.length 0 k _ (by omega) hk (by simp) (by simp)
theorem eq_one (s : S27) : laws_eqField.f s.f0 s.f1 s.f2 s.f0 s.f1 s.f2 = some true := by
  unfold laws_eqField.f
  simp
theorem eq_l0 (l : List S27) (hl : l.length ≤ 1048576) : ∀ (n i k : Nat), i + n = l.length → n < k → laws_eqFieldS.l0 k l l (i : Int) = some true := by
  intro n
  induction n with
  | zero =>
    intro i k hi hk
    obtain ⟨k, rfl⟩ : ∃ m, k = m + 1 := ⟨k - 1, by omega⟩
    simp only [laws_eqFieldS.l0]
    rw [if_neg (by omega)]
  | succ n ih =>
    intro i k hi hk
    obtain ⟨k, rfl⟩ : ∃ m, k = m + 1 := ⟨k - 1, by omega⟩
    simp only [laws_eqFieldS.l0, eq_one, Option.bind_some]
    rw [if_pos (by omega), if_pos (by omega), if_pos (by omega), if_pos trivial, wrap64_id (n := (i : Int) + 1) (by omega) (by omega)]
    exact ih (i + 1) k (by omega) (by omega)
theorem eq_f (l : List S27) (hl : l.length ≤ 1048576) (k : Nat) (hk : l.length < k) : laws_eqFieldS.f k l l = some true := by
  unfold laws_eqFieldS.f
  rw [if_pos rfl]
  exact eq_l0 l hl l.length 0 k (by omega) hk
theorem l7Fits_f (size n : Int) (h : 1 ≤ size ∧ size ≤ 6) : spec_l7Fits.f size n = some (decide (Fits n size)) := by
  unfold spec_l7Fits.f
  by_cases h6 : size = 6
  · subst h6
    rw [if_pos rfl]
    congr 1
    unfold Fits
    by_cases h0 : n = 0 <;> simp [h0]
  · rw [if_neg h6]
    by_cases h5 : size = 5
    · subst h5
      rw [if_pos rfl]
      simp [Fits]
    · rw [if_neg h5, bits_f size (by omega)]
      simp only [Option.bind_some]
      have fin : ∀ s b m : Int, s ≤ 4 → bitsOf s = b → (2 : Int) ^ b.toNat - 1 = m → 0 ≤ b → wrap64 ((shl .i64 1 b) - 1) = m → (if 0 ≤ bitsOf s then ((spec_l1In.f n 0 (wrap64 ((shl .i64 1 (bitsOf s)) - 1))).bind fun t143 => (some t143)) else (none)) = some (decide (Fits n s)) := by
        intro s b m h1 h2 h3 h4 h5
        rw [h2, if_pos h4, h5, in_f, Option.bind_some, fits_low n s b m h1 h2 h3]
      rcases (by omega : size = 1 ∨ size = 2 ∨ size = 3 ∨ size = 4) with rfl | rfl | rfl | rfl
      · exact fin 1 1 1 (by decide) rfl (by decide) (by decide) (by first | rfl | decide +kernel)
      · exact fin 2 8 255 (by decide) rfl (by decide) (by decide) (by first | rfl | decide +kernel)
      · exact fin 3 16 65535 (by decide) rfl (by decide) (by decide) (by first | rfl | decide +kernel)
      · exact fin 4 32 4294967295 (by decide) rfl (by decide) (by decide) (by first | rfl | decide +kernel)
theorem spec_l0 (l : List S27) (hl : l.length ≤ 1048576) : ∀ (n i k : Nat), i + n = l.length → n < k →
    spec_FieldsOk.l0 k l (i : Int) = some (decide ((l.length : Int) ≤ 12) && !((l.drop i).any badField)) := by
  intro n
  induction n with
  | zero =>
    intro i k hi hk
    obtain ⟨k, rfl⟩ : ∃ m, k = m + 1 := ⟨k - 1, by omega⟩
    simp only [spec_FieldsOk.l0]
    rw [if_neg (by omega), List.drop_eq_nil_of_le (by omega)]
    simp
  | succ n ih =>
    intro i k hi hk
    obtain ⟨k, rfl⟩ : ∃ m, k = m + 1 := ⟨k - 1, by omega⟩
    simp only [spec_FieldsOk.l0]
    rw [if_pos (by omega), if_pos (by omega), rdI l i (by omega), in_f, Option.bind_some]
    have hd : l.drop i = l[i] :: l.drop (i + 1) := List.drop_eq_getElem_cons (by omega)
    have hi1 := ih (i + 1) k (by omega) (by omega)
    have e : wrap64 ((i : Int) + 1) = ((i + 1 : Nat) : Int) := by rw [wrap64_id (by omega) (by omega)]; omega
    rw [e, hi1, hd]
    generalize l[i] = s
    by_cases h0 : 1 ≤ s.f0 ∧ s.f0 ≤ 6
    · rw [if_pos (by simpa using h0), l7Fits_f _ _ h0, Option.bind_some]
      by_cases h1 : Fits s.f2 s.f0
      · rw [if_pos (by simpa using h1)]
        have hb : badField s = false := by unfold badField; simp [h0, h1]
        simp [hb]
      · rw [if_neg (by simpa using h1)]
        have hb : badField s = true := by unfold badField; simp [h0, h1]
        simp [hb]
    · rw [if_neg (by simpa using h0)]
      have hb : badField s = true := by
        unfold badField
        rw [decide_eq_false h0]; rfl
      simp [hb]
theorem spec_f (l : List S27) (hl : l.length ≤ 1048576) (k : Nat) (hk : l.length < k) : spec_FieldsOk.f k l = impl_FieldsOk.f l := by
  unfold spec_FieldsOk.f impl_FieldsOk.f
  rw [← List.drop_zero (l := l)] 
  exact spec_l0 _ (by simpa using hl) _ 0 k (by simp; rfl) (by simpa using hk)
end Go.Proofs.YtjjcepnadjociaaDoor.Lem
