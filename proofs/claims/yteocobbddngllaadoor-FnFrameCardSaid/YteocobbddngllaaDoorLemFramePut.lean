/- The frame of segments, in plain terms: a number of segments, their sizes, and what they hold. -/
import Derived.Test.YteocobbddngllaaDoorLemBytes
import Derived.Test.YteocobbddngllaaDoorLemFrameOk
namespace Go.Proofs.YteocobbddngllaaDoor.Lem
set_option linter.unusedVariables false
open Go Go.RowKit Go.Proofs.YteocobbddngllaaDoor.P Go.Proofs.YteocobbddngllaaDoorW.PrintWords Go.Proofs.YteocobbddngllaaDoorW.PrintLast Go.Proofs.YteocobbddngllaaDoorW.PrintMore
/-- A number in four bytes. -/
def le4 (n : Int) : ByteArray := strOfNums (leB n 4)
theorem le4_size (n : Int) : (le4 n).size = 4 := by unfold le4; rw [strOfNums_size, leB_length]
/-- The sizes of segments, in words, behind a text. -/
def putSizes (l : List ByteArray) (out : ByteArray) : ByteArray := l.foldl (fun o s => o ++ le4 ((s.size : Int) / 8)) out
/-- What segments hold, behind a text. -/
def putSegs (l : List ByteArray) (out : ByteArray) : ByteArray := l.foldl (fun o s => o ++ s) out
def headV (l : List ByteArray) : ByteArray := putSizes l (le4 ((l.length : Int) - 1))
/-- A text whose length is a number of words. -/
def pad8 (h : ByteArray) : ByteArray := if (h.size : Int) % 8 = 0 then h else h ++ le4 0
def frameV (l : List ByteArray) : ByteArray := putSegs l (pad8 (headV l))
theorem putSizes_size (l : List ByteArray) : ∀ out : ByteArray, (putSizes l out).size = out.size + 4 * l.length := by
  induction l with
  | nil => intro out; simp [putSizes]
  | cons s l ih =>
    intro out
    show (putSizes l (out ++ le4 _)).size = _
    rw [ih, ByteArray.size_append, le4_size, List.length_cons]; omega
def sumSize (l : List ByteArray) : Nat := l.foldl (fun n s => n + s.size) 0
theorem sumSize_from (l : List ByteArray) : ∀ n, l.foldl (fun n s => n + s.size) n = n + sumSize l := by
  induction l with
  | nil => intro n; simp [sumSize]
  | cons s l ih =>
    intro n
    have h1 := ih (n + s.size)
    have h2 := ih (0 + s.size)
    unfold sumSize
    simp only [List.foldl_cons]
    omega
theorem sumSize_cons (s : ByteArray) (l : List ByteArray) : sumSize (s :: l) = s.size + sumSize l := by
  have h := sumSize_from l (0 + s.size)
  unfold sumSize
  simp only [List.foldl_cons]
  rw [h]; unfold sumSize; omega
theorem putSegs_size (l : List ByteArray) : ∀ out : ByteArray, (putSegs l out).size = out.size + sumSize l := by
  induction l with
  | nil => intro out; simp [putSegs, sumSize]
  | cons s l ih =>
    intro out
    show (putSegs l (out ++ s)).size = _
    rw [ih, ByteArray.size_append, sumSize_cons]; omega
theorem drop_rs (l : List ByteArray) (i : Nat) (h : i < l.length) : l.drop i = rs l i :: l.drop (i + 1) := by
  rw [List.drop_eq_getElem_cons h, rs_get l i h]
theorem okFrom_facts (l : List ByteArray) : ∀ (d i : Nat) (w : Int), i + d = l.length → okFrom l d i w = true →
    (1 ≤ l.length ∧ l.length ≤ 6) ∧ (∀ x ∈ l.drop i, x.size % 8 = 0) ∧ 8 * w + (sumSize (l.drop i) : Int) ≤ 1600 := by
  intro d
  induction d with
  | zero =>
    intro i w hi h
    unfold okFrom at h
    simp only [Bool.and_eq_true, decide_eq_true_eq] at h
    rw [List.drop_eq_nil_of_le (by omega)]
    exact ⟨by omega, by simp, by show _ + ((0 : Nat) : Int) ≤ _; omega⟩
  | succ d ih =>
    intro i w hi h
    unfold okFrom at h
    by_cases h8 : ((rs l i).size : Int) % 8 = 0
    · rw [if_pos h8] at h
      obtain ⟨h1, h2, h3⟩ := ih (i + 1) _ (by omega) h
      rw [drop_rs l i (by omega)]
      refine ⟨h1, fun x hx => ?_, by rw [sumSize_cons]; omega⟩
      rcases List.mem_cons.1 hx with rfl | hx
      · omega
      · exact h2 x hx
    · rw [if_neg h8] at h
      cases h
theorem frameOk_facts {l : List ByteArray} (h : frameOkV l = true) : (1 ≤ l.length ∧ l.length ≤ 6) ∧ (∀ x ∈ l, x.size % 8 = 0) ∧ sumSize l ≤ 1600 := by
  have := okFrom_facts l l.length 0 0 (by omega) h
  rw [List.drop_zero] at this
  exact ⟨this.1, this.2.1, by omega⟩
theorem size_le_sum {l : List ByteArray} : ∀ x ∈ l, x.size ≤ sumSize l := by
  induction l with
  | nil => intro x hx; cases hx
  | cons s l ih =>
    intro x hx
    rw [sumSize_cons]
    rcases List.mem_cons.1 hx with rfl | hx
    · omega
    · have := ih x hx; omega
theorem pad8_size (h : ByteArray) : (pad8 h).size ≤ h.size + 4 := by
  unfold pad8; split
  · omega
  · rw [ByteArray.size_append, le4_size]; omega
theorem headV_size (l : List ByteArray) : (headV l).size = 4 + 4 * l.length := by unfold headV; rw [putSizes_size, le4_size]
end Go.Proofs.YteocobbddngllaaDoor.Lem
