/- What the two Trim answer: one plain function; its laws. -/
import Derived.Test.YtfeodfgjpjddhaaLemPut3
import Derived.Test.YtfeodfgjpjddhaaStubTrim
import Derived.Test.YtfeodfgjpjddhaaPx33
import Derived.Test.YtfeodfgjpjddhaaPx34
import Derived.Test.YtfeodfgjpjddhaaPx35
namespace Go.Proofs.Ytfeodfgjpjddhaa.Lem
set_option linter.unusedVariables false
open Go Go.RowKit Go.Proofs.Ytfeodfgjpjddhaa Go.Proofs.Ytfeodfgjpjddhaa.P Go.Proofs.YtfeodfgjpjddhaaW.PrintWords Go.Proofs.YtfeodfgjpjddhaaW.PrintLast Go.Proofs.YtfeodfgjpjddhaaW.PrintMore

theorem zero_l0 (t : ByteArray) (ht : t.size ≤ 1000000000) : ∀ (d k i : Nat), i + d = t.size → d < k →
    ((∀ j : Nat, i ≤ j → j < t.size → bt t (j : Int) = 0) → spec_l1Zero.l0 k t i = some true) ∧ ((∃ j : Nat, i ≤ j ∧ j < t.size ∧ bt t (j : Int) ≠ 0) → spec_l1Zero.l0 k t i = some false) := by
  intro d
  induction d with
  | zero =>
    intro k i hi hk
    obtain ⟨k, rfl⟩ : ∃ m, k = m + 1 := ⟨k - 1, by omega⟩
    simp only [spec_l1Zero.l0]
    rw [if_neg (by omega)]
    exact ⟨fun _ => rfl, fun ⟨j, h1, h2, _⟩ => by omega⟩
  | succ d ih =>
    intro k i hi hk
    obtain ⟨k, rfl⟩ : ∃ m, k = m + 1 := ⟨k - 1, by omega⟩
    simp only [spec_l1Zero.l0]
    rw [if_pos (by omega), if_pos (by omega), wrap64_id (by omega) (by omega)]
    have e : (i : Int) + 1 = ((i + 1 : Nat) : Int) := by omega
    rw [e]
    obtain ⟨h1, h2⟩ := ih k (i + 1) (by omega) (by omega)
    by_cases hz : bt t (i : Int) = 0
    · rw [if_pos hz]
      refine ⟨fun h => h1 (fun j a b => h j (by omega) b), fun ⟨j, a, b, c⟩ => h2 ⟨j, ?_, b, c⟩⟩
      rcases Nat.lt_or_ge i j with h | h
      · omega
      · exfalso; obtain rfl : j = i := by omega
        exact c hz
    · rw [if_neg hz]
      exact ⟨fun h => absurd (h i (by omega) (by omega)) hz, fun _ => rfl⟩
theorem zero8_get (i : Nat) (h : i < 8) : zero8.data.toList[i]? = some 0 := by
  match i, h with
  | 0, _ => rfl
  | 1, _ => rfl
  | 2, _ => rfl
  | 3, _ => rfl
  | 4, _ => rfl
  | 5, _ => rfl
  | 6, _ => rfl
  | 7, _ => rfl
theorem endsZero_iff (s : ByteArray) : endsZero s = true ↔ 8 ≤ s.size ∧ ∀ i : Nat, i < 8 → bt s ((s.size - 8 + i : Nat) : Int) = 0 := by
  unfold endsZero Lib.hasSuffix
  rw [List.isSuffixOf_iff_suffix, List.suffix_iff_eq_drop]
  have hz : zero8.data.toList.length = 8 := rfl
  rw [hz, data_length]
  constructor
  · intro h
    have hlen := congrArg List.length h
    rw [hz, List.length_drop, data_length] at hlen
    refine ⟨by omega, fun i hi => ?_⟩
    rw [bt_data]
    have h2 : (s.data.toList.drop (s.size - 8))[i]? = some 0 := by rw [← h]; exact zero8_get i hi
    rw [List.getElem?_drop] at h2
    rw [h2]; rfl
  · rintro ⟨h8, h⟩
    apply List.ext_getElem?
    intro i
    rw [List.getElem?_drop]
    rcases Nat.lt_or_ge i 8 with hi | hi
    · rw [zero8_get i hi]
      have hl : s.size - 8 + i < s.data.toList.length := by rw [data_length]; omega
      have h2 := h i hi
      rw [bt_data, List.getElem?_eq_getElem hl] at h2
      rw [List.getElem?_eq_getElem hl]
      simp only [Option.getD_some] at h2
      congr 1
      exact (UInt8.toNat_inj.1 (by simpa using h2)).symm
    · rw [List.getElem?_eq_none (by rw [hz]; exact hi), List.getElem?_eq_none (by rw [data_length]; omega)]
theorem l1Trim_l0 : ∀ (n k : Nat) (s : ByteArray), s.size ≤ n → n + 10 < k → n ≤ 1000000 → spec_l1Trim.l0 k s = some (trimN n s) := by
  intro n
  induction n with
  | zero =>
    intro k s hs hk _
    obtain ⟨k, rfl⟩ : ∃ m, k = m + 1 := ⟨k - 1, by omega⟩
    simp only [spec_l1Trim.l0]
    rw [if_neg (by omega)]; rfl
  | succ n ih =>
    intro k s hs hk hn
    obtain ⟨k, rfl⟩ : ∃ m, k = m + 1 := ⟨k - 1, by omega⟩
    simp only [spec_l1Trim.l0]
    by_cases h8 : (s.size : Int) ≥ 8
    · rw [if_pos h8, wrap64_id (by omega) (by omega), if_pos (by omega), if_pos (by omega)]
      have e : ((s.size : Int) - 8).toNat = s.size - 8 := by omega
      rw [e]
      have hz : (s.extract (s.size - 8) s.size).size = 8 := by rw [ByteArray.size_extract]; omega
      have hbt : ∀ j : Nat, j < 8 → bt (s.extract (s.size - 8) s.size) (j : Int) = bt s ((s.size - 8 + j : Nat) : Int) := fun j hj => by
        rw [bt_extract _ _ _ _ (Nat.le_refl _), if_pos (by omega)]
      obtain ⟨h1, h2⟩ := zero_l0 (s.extract (s.size - 8) s.size) (by omega) 8 k 0 (by omega) (by omega)
      cases hq : endsZero s with
      | true =>
        obtain ⟨_, hall⟩ := (endsZero_iff s).1 hq
        have hv : spec_l1Zero.f k (s.extract (s.size - 8) s.size) = some true := h1 (fun j _ hj => by rw [hbt j (by omega)]; exact hall j (by omega))
        rw [hv]
        simp only [Option.bind_some, if_true, trimN, hq]
        have hs2 : (s.extract 0 (s.size - 8)).size = s.size - 8 := by rw [ByteArray.size_extract]; omega
        exact ih k _ (by omega) (by omega) (by omega)
      | false =>
        have hne : ¬ ∀ i : Nat, i < 8 → bt s ((s.size - 8 + i : Nat) : Int) = 0 := fun h => by
          have := (endsZero_iff s).2 ⟨by omega, h⟩
          rw [hq] at this; cases this
        have hex : ∃ j : Nat, 0 ≤ j ∧ j < (s.extract (s.size - 8) s.size).size ∧ bt (s.extract (s.size - 8) s.size) (j : Int) ≠ 0 := by
          apply Classical.byContradiction
          intro hn
          apply hne
          intro i hi
          apply Classical.byContradiction
          intro hb
          exact hn ⟨i, by omega, by omega, by rw [hbt i hi]; exact hb⟩
        have hv : spec_l1Zero.f k (s.extract (s.size - 8) s.size) = some false := h2 hex
        rw [hv]
        simp only [Option.bind_some, Bool.false_eq_true, if_false]
        rw [trimN_no _ hq]
    · rw [if_neg h8]
      have hq : endsZero s = false := by
        cases hq : endsZero s with
        | true => have := endsZero_size hq; omega
        | false => rfl
      rw [trimN_no _ hq]
/-- Trim, as a function. -/
def trimV (s : ByteArray) : ByteArray := if IsW s then trimN s.size s else ⟨#[]⟩
theorem specTrim_f (s : ByteArray) (k : Nat) (hk : 1700 < k) : spec_Trim.f k s = some (trimV s) := by
  unfold spec_Trim.f trimV
  rw [l1Ok_f, Option.bind_some]
  by_cases h1 : IsW s
  · have hz : (s.size : Int) ≤ 1600 := h1.2
    rw [if_pos (by simpa using h1), if_pos h1]
    have := l1Trim_l0 s.size k s (Nat.le_refl _) (by omega) (by omega)
    have e : spec_l1Trim.f k s = some (trimN s.size s) := this
    rw [e]; rfl
  · rw [if_neg (by simpa using h1), if_neg h1]
theorem implTrim_f (s : ByteArray) : impl_Trim.f s = some (trimV s) := by
  unfold impl_Trim.f trimV
  rw [isWords_f, Option.bind_some]
  by_cases h1 : IsW s
  · have hz : (s.size : Int) ≤ 1600 := h1.2
    rw [if_pos (by simpa using h1), if_pos h1]
    unfold impl_trimmed.f
    rw [if_pos (by omega)]; rfl
  · rw [if_neg (by simpa using h1), if_neg h1]
theorem bt_big (s : ByteArray) (i : Nat) (h : s.size ≤ i) : bt s (i : Int) = 0 := bt_out (by omega) (by omega)
theorem trimN_bt : ∀ (n : Nat) (s : ByteArray) (i : Nat), bt (trimN n s) (i : Int) = bt s (i : Int)
  | 0, s, i => rfl
  | n + 1, s, i => by
    simp only [trimN]
    by_cases h : endsZero s = true
    · rw [if_pos h, trimN_bt n _ i, bt_extract _ _ _ _ (by omega)]
      obtain ⟨h8, hall⟩ := (endsZero_iff s).1 h
      split
      · congr 2; omega
      · rcases Nat.lt_or_ge i s.size with hi | hi
        · have := hall (i - (s.size - 8)) (by omega)
          have e : s.size - 8 + (i - (s.size - 8)) = i := by omega
          rw [e] at this
          exact this.symm
        · exact (bt_big s i hi).symm
    · rw [if_neg h]
theorem trimN_size : ∀ (n : Nat) (s : ByteArray), (trimN n s).size ≤ s.size ∧ (s.size % 8 = 0 → (trimN n s).size % 8 = 0)
  | 0, s => ⟨Nat.le_refl _, id⟩
  | n + 1, s => by
    simp only [trimN]
    by_cases h : endsZero s = true
    · rw [if_pos h]
      have h8 := endsZero_size h
      have hz : (s.extract 0 (s.size - 8)).size = s.size - 8 := by rw [ByteArray.size_extract]; omega
      have ih := trimN_size n (s.extract 0 (s.size - 8))
      rw [hz] at ih
      exact ⟨by omega, fun hm => ih.2 (by omega)⟩
    · rw [if_neg h]; exact ⟨Nat.le_refl _, id⟩
theorem trimN_end : ∀ (n : Nat) (s : ByteArray), s.size ≤ n → endsZero (trimN n s) = false
  | 0, s, hs => by
    cases hq : endsZero (trimN 0 s) with
    | true => have := endsZero_size hq; simp only [trimN] at this; omega
    | false => rfl
  | n + 1, s, hs => by
    simp only [trimN]
    by_cases h : endsZero s = true
    · rw [if_pos h]
      have h8 := endsZero_size h
      exact trimN_end n _ (by rw [ByteArray.size_extract]; omega)
    · rw [if_neg h]; simpa using h
end Go.Proofs.Ytfeodfgjpjddhaa.Lem
