/- What a name is: the two packages' functions answer alike, on short texts. -/
import Derived.Test.YtjeipkfeihahdaaGreatDoorLemBits
import Derived.Test.YtjeipkfeihahdaaGreatDoorPx10
import Derived.Test.YtjeipkfeihahdaaGreatDoorPx4
import Derived.Test.YtjeipkfeihahdaaGreatDoorPx5
import Derived.Test.YtjeipkfeihahdaaGreatDoorPx8
import Derived.Test.YtjeipkfeihahdaaGreatDoorPx9
import Derived.Test.YtjeipkfeihahdaaGreatDoorStubSizesM
namespace Go.Proofs.YtjeipkfeihahdaaGreatDoor.Lem
set_option linter.unusedVariables false
set_option linter.unusedSimpArgs false
open Go Go.RowKit Go.Proofs.YtjeipkfeihahdaaGreatDoor.P Go.Proofs.YtjeipkfeihahdaaGreatDoorW.PrintWords Go.Proofs.YtjeipkfeihahdaaGreatDoorW.PrintLast Go.Proofs.YtjeipkfeihahdaaGreatDoorW.PrintMore
def letB (b : Int) : Bool := decide ((97 ≤ b ∧ b ≤ 122) ∨ (65 ≤ b ∧ b ≤ 90))
def figB (b : Int) : Bool := decide (48 ≤ b ∧ b ≤ 57)
/-- From a place on letters and figures alone. -/
def restOk (s : ByteArray) (i : Nat) : Nat → Bool
  | 0 => true
  | m + 1 => (letB (bt s i) || figB (bt s i)) && restOk s (i + 1) m
def nameOk (s : ByteArray) : Bool := decide (1 ≤ s.size ∧ s.size ≤ 10) && letB (bt s 0) && restOk s 1 (s.size - 1)
theorem isLetter_f (b : Int) : impl_isLetter.f b = some (letB b) := by
  unfold impl_isLetter.f letB
  split <;> (try split) <;> (try split) <;> congr 1 <;> (first | (rw [decide_eq_decide]; omega) | (symm; rw [decide_eq_true_eq]; omega) | (symm; rw [decide_eq_false_iff_not]; omega))
theorem isFigure_f (b : Int) : impl_isFigure.f b = some (figB b) := by
  unfold impl_isFigure.f figB
  split <;> congr 1 <;> (first | (rw [decide_eq_decide]; omega) | (symm; rw [decide_eq_true_eq]; omega) | (symm; rw [decide_eq_false_iff_not]; omega))
theorem in_f (a b c : Int) : impl_in.f a b c = some (decide (b ≤ a ∧ a ≤ c)) := by
  unfold impl_in.f
  split <;> congr 1 <;> (first | (rw [decide_eq_decide]; omega) | (symm; rw [decide_eq_false_iff_not]; omega))
theorem l1In_f (a b c : Int) : spec_l1In.f a b c = some (decide (b ≤ a ∧ a ≤ c)) := by
  unfold spec_l1In.f
  split <;> congr 1 <;> (first | (rw [decide_eq_decide]; omega) | (symm; rw [decide_eq_false_iff_not]; omega))
theorem isName_l (s : ByteArray) (hs : s.size ≤ 1000) : ∀ m i k, m + i = s.size → m < k → impl_isName.l0 k s (s.size : Int) (i : Int) = some (restOk s i m) := by
  intro m
  induction m with
  | zero =>
    intro i k hm hk
    obtain ⟨k, rfl⟩ : ∃ j, k = j + 1 := ⟨k - 1, by omega⟩
    unfold impl_isName.l0
    rw [if_neg (by omega)]
    rfl
  | succ m ih =>
    intro i k hm hk
    obtain ⟨k, rfl⟩ : ∃ j, k = j + 1 := ⟨k - 1, by omega⟩
    unfold impl_isName.l0
    rw [if_pos (by omega), if_pos (by omega), if_pos (by omega), isLetter_f, Option.bind_some, isFigure_f, Option.bind_some, wrap64_id (by omega) (by omega)]
    have e := ih (i + 1) k (by omega) (by omega)
    have e' : impl_isName.l0 k s (s.size : Int) ((i : Int) + 1) = some (restOk s (i + 1) m) := e
    rw [e', show restOk s i (m + 1) = ((letB (bt s i) || figB (bt s i)) && restOk s (i + 1) m) from rfl]
    generalize restOk s (i + 1) m = q
    cases letB (bt s i) <;> cases figB (bt s i) <;> simp
theorem isName_f (s : ByteArray) (hs : s.size ≤ 1000) (k : Nat) (hk : 1002 ≤ k) : impl_isName.f k s = some (nameOk s) := by
  unfold impl_isName.f nameOk
  rw [in_f, Option.bind_some]
  by_cases h : 1 ≤ s.size ∧ s.size ≤ 10
  · have e0 : decide ((1 : Int) ≤ (s.size : Int) ∧ (s.size : Int) ≤ 10) = true := decide_eq_true (by omega)
    have e1 : decide (1 ≤ s.size ∧ s.size ≤ 10) = true := decide_eq_true h
    rw [e0, e1, if_pos rfl, if_pos (by omega), isLetter_f, Option.bind_some]
    obtain ⟨k, rfl⟩ : ∃ j, k = j + 1 := ⟨k - 1, by omega⟩
    unfold impl_isName.j0
    cases hl : letB (bt s 0)
    · rfl
    · simp only [Bool.not_true, Bool.false_eq_true, if_false, Bool.true_and]
      have := isName_l s hs s.size 0 k (by omega) (by omega)
      have e2 : restOk s 0 s.size = restOk s 1 (s.size - 1) := by
        obtain ⟨m, hm⟩ : ∃ m, s.size = m + 1 := ⟨s.size - 1, by omega⟩
        rw [hm]
        show ((letB (bt s 0) || figB (bt s 0)) && restOk s 1 m) = _
        rw [hl]
        simp
      rw [← e2]
      exact this
  · have e0 : decide ((1 : Int) ≤ (s.size : Int) ∧ (s.size : Int) ≤ 10) = false := decide_eq_false (by omega)
    have e1 : decide (1 ≤ s.size ∧ s.size ≤ 10) = false := decide_eq_false h
    rw [e0, e1, if_neg (by decide)]
    obtain ⟨k, rfl⟩ : ∃ j, k = j + 1 := ⟨k - 1, by omega⟩
    unfold impl_isName.j0
    rfl
theorem l9Name_l (s : ByteArray) (hs : s.size ≤ 1000) : ∀ m i k, m + i = s.size → 1 ≤ i → m < k → spec_l9Name.l0 k s (i : Int) = some (decide (1 ≤ s.size ∧ s.size ≤ 10) && restOk s i m) := by
  intro m
  induction m with
  | zero =>
    intro i k hm hi hk
    obtain ⟨k, rfl⟩ : ∃ j, k = j + 1 := ⟨k - 1, by omega⟩
    unfold spec_l9Name.l0
    rw [if_neg (by omega), l1In_f]
    simp only [Option.bind_some, restOk, Bool.and_true]
    congr 1
    rw [decide_eq_decide]
    omega
  | succ m ih =>
    intro i k hm hi hk
    obtain ⟨k, rfl⟩ : ∃ j, k = j + 1 := ⟨k - 1, by omega⟩
    unfold spec_l9Name.l0
    have e := ih (i + 1) k (by omega) (by omega) (by omega)
    have e' : spec_l9Name.l0 k s ((i : Int) + 1) = some (decide (1 ≤ s.size ∧ s.size ≤ 10) && restOk s (i + 1) m) := e
    rw [if_pos (by omega), if_pos (by omega), wrap64_id (by omega) (by omega), e']
    rw [show restOk s i (m + 1) = ((letB (bt s i) || figB (bt s i)) && restOk s (i + 1) m) from rfl]
    unfold letB figB
    generalize restOk s (i + 1) m = q
    generalize bt s i = b
    have hi0 : ¬ (i : Int) = 0 := by omega
    have hi1 : ¬ i = 0 := by omega
    simp only [show (b < 48) = ¬ (48 ≤ b) from by simp, show (b > 57) = ¬ (b ≤ 57) from by simp]
    by_cases h1 : 97 ≤ b <;> by_cases h2 : b ≤ 122 <;> by_cases h3 : 65 ≤ b <;> by_cases h4 : b ≤ 90 <;> by_cases h5 : 48 ≤ b <;> by_cases h6 : b ≤ 57 <;> (try (exfalso; omega)) <;> simp [h1, h2, h3, h4, h5, h6, hi0, hi1]
theorem l9Name_f (s : ByteArray) (hs : s.size ≤ 1000) (k : Nat) (hk : 1002 ≤ k) : spec_l9Name.f k s = some (nameOk s) := by
  unfold spec_l9Name.f
  obtain ⟨k, rfl⟩ : ∃ j, k = j + 1 := ⟨k - 1, by omega⟩
  unfold spec_l9Name.l0
  by_cases h0 : s.size = 0
  · rw [if_neg (by omega), l1In_f]
    simp [nameOk, h0]
  · have e := l9Name_l s hs (s.size - 1) 1 k (by omega) (by omega) (by omega)
    have e' : spec_l9Name.l0 k s (0 + 1) = some (decide (1 ≤ s.size ∧ s.size ≤ 10) && restOk s 1 (s.size - 1)) := e
    rw [if_pos (by omega), if_pos (by omega), wrap64_id (by omega) (by omega), e']
    unfold nameOk letB
    generalize restOk s 1 (s.size - 1) = q
    have e0 : bt s 0 = bt s (0 : Int) := rfl
    generalize bt s 0 = b
    simp only [if_true]
    by_cases h1 : 97 ≤ b <;> by_cases h2 : b ≤ 122 <;> by_cases h3 : 65 ≤ b <;> by_cases h4 : b ≤ 90 <;> (try (exfalso; omega)) <;> simp [h1, h2, h3, h4]
theorem l9Size_f (s : ByteArray) : spec_l9Size.f s = some (baseSize s) := by
  unfold spec_l9Size.f baseSize
  have e : s.toList = s.data.toList := ByteArray.toList_eq s
  rw [e]
  generalize s.data.toList = l
  split
  · next h => subst h; rfl
  split
  · next h => subst h; rfl
  split
  · next h => subst h; rfl
  split
  · next h => subst h; rfl
  split
  · next h => subst h; rfl
  split
  · next h => subst h; rfl
  split <;> first | rfl | contradiction
end Go.Proofs.YtjeipkfeihahdaaGreatDoor.Lem
