/- Which pointers are ok, of the program and of the reference: one plain condition. -/
import Derived.Test.YtfeodfgjpjddhaaLemIn
import Derived.Test.YtfeodfgjpjddhaaPx4
import Derived.Test.YtfeodfgjpjddhaaPx7
namespace Go.Proofs.Ytfeodfgjpjddhaa.Lem
set_option linter.unusedVariables false
set_option linter.unusedSimpArgs false
open Go Go.RowKit Go.Proofs.Ytfeodfgjpjddhaa.P Go.Proofs.YtfeodfgjpjddhaaW.PrintWords Go.Proofs.YtfeodfgjpjddhaaW.PrintLast Go.Proofs.YtfeodfgjpjddhaaW.PrintMore
def b2i (h : Bool) : Int := if h = true then 1 else 0
theorem b2i_f (h : Bool) : (h = false) ↔ b2i h = 0 := by cases h <;> simp [b2i]
theorem hf0 : b2i false = 0 := rfl
/-- A pointer that is ok. -/
def POk (a b c d e f g : Int) (h : Bool) : Prop :=
  (a = 0 ∧ b = 0 ∧ c = 0 ∧ d = 0 ∧ e = 0 ∧ f = 0 ∧ g = 0 ∧ b2i h = 0) ∨
  (a = 1 ∧ -536870912 ≤ b ∧ b ≤ 536870911 ∧ 0 ≤ c ∧ c ≤ 65535 ∧ 0 ≤ d ∧ d ≤ 65535 ∧ e = 0 ∧ f = 0 ∧ g = 0 ∧ b2i h = 0 ∧ (b ≠ 0 ∨ c ≠ 0 ∨ d ≠ 0)) ∨
  (a = 2 ∧ -536870912 ≤ b ∧ b ≤ 536870911 ∧ c = 0 ∧ d = 0 ∧ 0 ≤ e ∧ e ≤ 7 ∧ 0 ≤ f ∧ f ≤ 536870911 ∧ g = 0 ∧ b2i h = 0) ∨
  (a = 3 ∧ 0 ≤ b ∧ b ≤ 536870911 ∧ c = 0 ∧ d = 0 ∧ e = 0 ∧ f = 0 ∧ 0 ≤ g ∧ g ≤ 4294967295)
instance (a b c d e f g : Int) (h : Bool) : Decidable (POk a b c d e f g h) := by unfold POk; infer_instance
theorem pOk_yes {a b c d e f g : Int} {h : Bool} (hx : POk a b c d e f g h) : some true = some (decide (POk a b c d e f g h)) := by rw [decide_eq_true hx]
theorem pOk_no {a b c d e f g : Int} {h : Bool} (hx : ¬ POk a b c d e f g h) : some false = some (decide (POk a b c d e f g h)) := by rw [decide_eq_false hx]
theorem pOk_of {a b c d e f g : Int} {h : Bool} (x : Bool) (hx : x = true ↔ POk a b c d e f g h) : some x = some (decide (POk a b c d e f g h)) := by
  cases x with
  | true => exact pOk_yes (hx.1 rfl)
  | false => exact pOk_no (fun h => by have := hx.2 h; cases this)
theorem near_f (b : Int) : impl_near.f b = some (decide (-536870912 ≤ b ∧ b ≤ 536870911)) := by
  unfold impl_near.f; rw [in_f]; rfl
theorem implPointOk_f (a b c d e f g : Int) (h : Bool) : impl_PointOk.f a b c d e f g h = some (decide (POk a b c d e f g h)) := by
  unfold impl_PointOk.f
  have hf0 := hf0
  by_cases ha : a = 0
  · subst ha
    rw [if_pos rfl]
    apply pOk_of
    unfold POk
    simp only [Bool.and_eq_true, beq_iff_eq, Bool.not_eq_true', b2i_f]
    (try simp only [true_and, and_true, not_true_eq_false, false_or, or_false, or_true, true_or, eq_self]); constructor <;> intro hx <;> omega
  · rw [if_neg ha]
    by_cases h1 : a = 1
    · subst h1
      rw [if_pos rfl, near_f, in_f, in_f]
      simp only [Option.bind_some]
      by_cases hq : e = 0 ∧ f = 0 ∧ g = 0 ∧ h = false
      · obtain ⟨rfl, rfl, rfl, rfl⟩ := hq
        rw [if_pos (by rfl)]
        by_cases hn : -536870912 ≤ b ∧ b ≤ 536870911
        · rw [if_pos (by simpa using hn)]
          by_cases hc : 0 ≤ c ∧ c ≤ 65535
          · rw [if_pos (by simpa using hc)]
            by_cases hd : 0 ≤ d ∧ d ≤ 65535
            · rw [if_pos (by simpa using hd)]
              apply pOk_of
              unfold POk
              simp only [Bool.or_eq_true, Bool.not_eq_true', beq_eq_false_iff_ne, ne_eq, Bool.false_eq_true, or_false]
              (try simp only [true_and, and_true, not_true_eq_false, false_or, or_false, or_true, true_or, eq_self]); constructor <;> intro hx <;> omega
            · rw [if_neg (by simpa using hd)]; exact pOk_no (by unfold POk; omega)
          · rw [if_neg (by simpa using hc)]; exact pOk_no (by unfold POk; omega)
        · rw [if_neg (by simpa using hn)]; exact pOk_no (by unfold POk; omega)
      · rw [if_neg (by simp only [Bool.and_eq_true, beq_iff_eq, Bool.not_eq_true']; exact fun hx => hq hx.2)]; rw [b2i_f] at hq; exact pOk_no (by unfold POk; omega)
    · rw [if_neg h1]
      by_cases h2 : a = 2
      · subst h2
        rw [if_pos rfl, near_f, in_f, in_f]
        simp only [Option.bind_some]
        by_cases hq : c = 0 ∧ d = 0 ∧ g = 0 ∧ h = false
        · obtain ⟨rfl, rfl, rfl, rfl⟩ := hq
          rw [if_pos (by rfl)]
          by_cases hn : -536870912 ≤ b ∧ b ≤ 536870911
          · rw [if_pos (by simpa using hn)]
            by_cases hc : 0 ≤ e ∧ e ≤ 7
            · rw [if_pos (by simpa using hc)]
              apply pOk_of
              unfold POk
              simp only [decide_eq_true_eq]
              (try simp only [true_and, and_true, not_true_eq_false, false_or, or_false, or_true, true_or, eq_self]); constructor <;> intro hx <;> omega
            · rw [if_neg (by simpa using hc)]; exact pOk_no (by unfold POk; omega)
          · rw [if_neg (by simpa using hn)]; exact pOk_no (by unfold POk; omega)
        · rw [if_neg (by simp only [Bool.and_eq_true, beq_iff_eq, Bool.not_eq_true']; exact fun hx => hq hx.2)]; rw [b2i_f] at hq; exact pOk_no (by unfold POk; omega)
      · rw [if_neg h2]
        by_cases h3 : a = 3
        · subst h3
          rw [if_pos rfl, in_f, in_f]
          simp only [Option.bind_some]
          by_cases hq : c = 0 ∧ d = 0 ∧ e = 0 ∧ f = 0
          · obtain ⟨rfl, rfl, rfl, rfl⟩ := hq
            rw [if_pos (by rfl)]
            by_cases hn : 0 ≤ b ∧ b ≤ 536870911
            · rw [if_pos (by simpa using hn)]
              apply pOk_of
              unfold POk
              simp only [decide_eq_true_eq]
              (try simp only [true_and, and_true, not_true_eq_false, false_or, or_false, or_true, true_or, eq_self]); constructor <;> intro hx <;> omega
            · rw [if_neg (by simpa using hn)]; exact pOk_no (by unfold POk; omega)
          · rw [if_neg (by simp only [Bool.and_eq_true, beq_iff_eq]; exact fun hx => hq hx.2)]; exact pOk_no (by unfold POk; omega)
        · rw [if_neg h3]; exact pOk_no (by unfold POk; omega)
theorem specPointOk_j2 (k : Nat) (x3 x4 x5 x6 : Bool) (a b c d e f g : Int) (h : Bool) (h3 : x3 = decide (-536870912 ≤ b ∧ b ≤ 536870911)) (h4 : x4 = decide (c = 0 ∧ d = 0)) (h5 : x5 = decide (e = 0 ∧ f = 0)) (h6 : x6 = decide (g = 0 ∧ h = false)) :
    spec_PointOk.j2 (k + 1) x3 x4 x5 x6 a b c d e f g h = some (decide (POk a b c d e f g h)) := by
  simp only [spec_PointOk.j2, l1In_f, Option.bind_some]
  subst h3 h4 h5 h6
  have hf0 := hf0
  by_cases ha : a = 0
  · subst ha
    rw [if_pos rfl]
    by_cases hb : b = 0
    · rw [if_pos hb]
      by_cases hc : c = 0 ∧ d = 0
      · rw [if_pos (decide_eq_true hc)]
        by_cases he : e = 0 ∧ f = 0
        · rw [if_pos (decide_eq_true he)]
          apply pOk_of; unfold POk; (try simp only [decide_eq_true_eq, b2i_f]); (try simp only [true_and, and_true, not_true_eq_false, false_or, or_false, or_true, true_or, eq_self]); constructor <;> intro hx <;> omega
        · rw [if_neg (by simpa using he)]; exact pOk_no (by unfold POk; omega)
      · rw [if_neg (by simpa using hc)]; exact pOk_no (by unfold POk; omega)
    · rw [if_neg hb]; exact pOk_no (by unfold POk; omega)
  · rw [if_neg ha]
    by_cases h1 : a = 1
    · subst h1
      rw [if_pos rfl]
      by_cases hn : -536870912 ≤ b ∧ b ≤ 536870911
      · rw [if_pos (decide_eq_true hn)]
        by_cases hc : 0 ≤ c ∧ c ≤ 65535
        · rw [if_pos (decide_eq_true hc)]
          by_cases hd : 0 ≤ d ∧ d ≤ 65535
          · rw [if_pos (decide_eq_true hd)]
            by_cases he : e = 0 ∧ f = 0
            · rw [if_pos (decide_eq_true he)]
              by_cases hg : g = 0 ∧ h = false
              · rw [if_pos (decide_eq_true hg)]
                rw [b2i_f] at hg
                by_cases hb : b = 0
                · rw [if_pos hb, wrap64_id (by omega) (by omega)]
                  apply pOk_of; unfold POk; (try simp only [decide_eq_true_eq, b2i_f]); (try simp only [true_and, and_true, not_true_eq_false, false_or, or_false, or_true, true_or, eq_self]); constructor <;> intro hx <;> omega
                · rw [if_neg hb]; exact pOk_yes (by unfold POk; omega)
              · rw [if_neg (by simpa using hg)]; rw [b2i_f] at hg; exact pOk_no (by unfold POk; omega)
            · rw [if_neg (by simpa using he)]; exact pOk_no (by unfold POk; omega)
          · rw [if_neg (by simpa using hd)]; exact pOk_no (by unfold POk; omega)
        · rw [if_neg (by simpa using hc)]; exact pOk_no (by unfold POk; omega)
      · rw [if_neg (by simpa using hn)]; exact pOk_no (by unfold POk; omega)
    · rw [if_neg h1]
      by_cases h2 : a = 2
      · subst h2
        rw [if_pos rfl]
        by_cases hn : -536870912 ≤ b ∧ b ≤ 536870911
        · rw [if_pos (decide_eq_true hn)]
          by_cases hc : c = 0 ∧ d = 0
          · rw [if_pos (decide_eq_true hc)]
            by_cases he : 0 ≤ e ∧ e ≤ 7
            · rw [if_pos (decide_eq_true he)]
              by_cases hf : 0 ≤ f ∧ f ≤ 536870911
              · rw [if_pos (decide_eq_true hf)]
                apply pOk_of; unfold POk; (try simp only [decide_eq_true_eq, b2i_f]); (try simp only [true_and, and_true, not_true_eq_false, false_or, or_false, or_true, true_or, eq_self]); constructor <;> intro hx <;> omega
              · rw [if_neg (by simpa using hf)]; exact pOk_no (by unfold POk; omega)
            · rw [if_neg (by simpa using he)]; exact pOk_no (by unfold POk; omega)
          · rw [if_neg (by simpa using hc)]; exact pOk_no (by unfold POk; omega)
        · rw [if_neg (by simpa using hn)]; exact pOk_no (by unfold POk; omega)
      · rw [if_neg h2]
        by_cases h3 : a = 3
        · subst h3
          rw [if_pos rfl]
          by_cases hn : 0 ≤ b ∧ b ≤ 536870911
          · rw [if_pos (decide_eq_true hn)]
            by_cases hc : c = 0 ∧ d = 0
            · rw [if_pos (decide_eq_true hc)]
              by_cases he : e = 0 ∧ f = 0
              · rw [if_pos (decide_eq_true he)]
                apply pOk_of; unfold POk; (try simp only [decide_eq_true_eq, b2i_f]); (try simp only [true_and, and_true, not_true_eq_false, false_or, or_false, or_true, true_or, eq_self]); constructor <;> intro hx <;> omega
              · rw [if_neg (by simpa using he)]; exact pOk_no (by unfold POk; omega)
            · rw [if_neg (by simpa using hc)]; exact pOk_no (by unfold POk; omega)
          · rw [if_neg (by simpa using hn)]; exact pOk_no (by unfold POk; omega)
        · rw [if_neg h3]; exact pOk_no (by unfold POk; omega)
theorem specPointOk_f (k : Nat) (a b c d e f g : Int) (h : Bool) (hk : 3 < k) : spec_PointOk.f k a b c d e f g h = some (decide (POk a b c d e f g h)) := by
  obtain ⟨k, rfl⟩ : ∃ m, k = m + 3 := ⟨k - 3, by omega⟩
  unfold spec_PointOk.f
  rw [l1In_f, Option.bind_some]
  have j1 : ∀ x3 x4 x5 : Bool, x3 = decide (-536870912 ≤ b ∧ b ≤ 536870911) → x4 = decide (c = 0 ∧ d = 0) → x5 = decide (e = 0 ∧ f = 0) → spec_PointOk.j1 (k + 2) x3 x4 x5 a b c d e f g h = some (decide (POk a b c d e f g h)) := by
    intro x3 x4 x5 h3 h4 h5
    simp only [spec_PointOk.j1]
    by_cases hg : g = 0
    · rw [if_pos hg]; exact specPointOk_j2 k _ _ _ _ a b c d e f g h h3 h4 h5 (by cases h <;> simp [hg])
    · rw [if_neg hg]; exact specPointOk_j2 k _ _ _ _ a b c d e f g h h3 h4 h5 (by simp [hg])
  have j0 : ∀ x3 x4 : Bool, x3 = decide (-536870912 ≤ b ∧ b ≤ 536870911) → x4 = decide (c = 0 ∧ d = 0) → spec_PointOk.j0 (k + 3) x3 x4 a b c d e f g h = some (decide (POk a b c d e f g h)) := by
    intro x3 x4 h3 h4
    simp only [spec_PointOk.j0]
    by_cases he : e = 0
    · rw [if_pos he]; exact j1 _ _ _ h3 h4 (by by_cases hf : f = 0 <;> simp [he, hf])
    · rw [if_neg he]; exact j1 _ _ _ h3 h4 (by simp [he])
  by_cases hc : c = 0
  · rw [if_pos hc]; exact j0 _ _ rfl (by by_cases hd : d = 0 <;> simp [hc, hd])
  · rw [if_neg hc]; exact j0 _ _ rfl (by simp [hc])
end Go.Proofs.Ytfeodfgjpjddhaa.Lem
