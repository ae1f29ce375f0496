/- What packing is, in plain terms, on lists of bytes. -/
import Derived.Test.YteocobbddngllaaDoorLemUnp
import Derived.Lib.SplitLaws
import Derived.Lib.Replace
import Derived.Lib.IndexBytes
namespace Go.Proofs.YteocobbddngllaaDoor.Lem
set_option linter.unusedVariables false
open Go Go.RowKit Go.Proofs.YteocobbddngllaaDoorW.PrintWords Go.Proofs.YteocobbddngllaaDoorW.PrintLast Go.Proofs.YteocobbddngllaaDoorW.PrintMore
def notZero (b : UInt8) : Bool := b != 0
theorem replaceK_zero : ∀ s : List UInt8, Lib.replaceK [0] [] (s.count 0) s = s.filter notZero := by
  intro s
  induction s with
  | nil => rfl
  | cons b l ih =>
    by_cases hb : b = 0
    · subst hb
      have hi : Lib.index (0 :: l) [0] = ((0 : Nat) : Int) := by rw [Lib.index_one]; rfl
      rw [List.count_cons_self, Lib.replaceK_hit [0] [] _ _ 0 hi]
      have hf : (0 :: l).filter notZero = l.filter notZero := List.filter_cons_of_neg (by decide)
      rw [hf, ← ih]
      rfl
    · have hf : (b :: l).filter notZero = b :: l.filter notZero := List.filter_cons_of_pos (by unfold notZero; simpa using hb)
      rw [List.count_cons_of_ne (by exact hb), hf, ← ih]
      cases hk : l.count 0 with
      | zero => rfl
      | succ k =>
        obtain ⟨i, hi⟩ := Lib.index_of_count (s := l) (old := [0]) (by rw [Lib.count_one]; omega)
        have hi2 : Lib.index (b :: l) [0] = ((i + 1 : Nat) : Int) := by
          rw [Lib.index_one] at hi ⊢
          unfold Lib.indexByte
          rw [if_neg (by simpa using hb), if_neg (by rw [hi]; simp), hi]; omega
        rw [Lib.replaceK_hit _ _ _ _ _ hi2, Lib.replaceK_hit _ _ _ _ _ hi]
        simp only [List.take_succ_cons, List.append_nil, List.cons_append, List.length_singleton, List.drop_succ_cons]
theorem replaceAll_zero (s : List UInt8) : Lib.replaceAll s [0] [] = s.filter notZero := by
  unfold Lib.replaceAll Lib.replace
  rw [if_neg (by decide)]
  have : Lib.replaceNum s [0] (-1) = s.count 0 := by
    unfold Lib.replaceNum
    rw [if_pos (Or.inl (by decide)), Lib.count_one]
  rw [this]
  exact replaceK_zero s
/-- Which bytes of a word are not 0, from place i on. -/
def tagL : List UInt8 → Nat → Nat
  | [], _ => 0
  | b :: t, i => (if b = 0 then 0 else 2 ^ i) + tagL t (i + 1)
theorem tagL_lt : ∀ (t : List UInt8) (i : Nat), tagL t i ≤ 2 ^ (i + t.length) - 2 ^ i := by
  intro t
  induction t with
  | nil => intro i; simp [tagL]
  | cons b t ih =>
    intro i
    have h := ih (i + 1)
    have e : i + (t.length + 1) = i + 1 + t.length := by omega
    simp only [tagL, List.length_cons]
    rw [e]
    have hp : 2 ^ (i + 1) ≤ 2 ^ (i + 1 + t.length) := Nat.pow_le_pow_right (by decide) (by omega)
    have hq : 2 ^ (i + 1) = 2 * 2 ^ i := by rw [Nat.pow_succ]; omega
    split <;> omega
/-- How many words, at most so many, a text begins with that something holds for. -/
def folL (p : List UInt8 → Bool) : Nat → List UInt8 → Nat
  | 0, _ => 0
  | n + 1, t => if 8 ≤ t.length then (if p (t.take 8) = true then 1 + folL p n (t.drop 8) else 0) else 0
theorem folL_le (p : List UInt8 → Bool) : ∀ (n : Nat) (t : List UInt8), folL p n t ≤ n ∧ 8 * folL p n t ≤ t.length := by
  intro n
  induction n with
  | zero => intro t; simp [folL]
  | succ n ih =>
    intro t
    simp only [folL]
    have h := ih (t.drop 8)
    rw [List.length_drop] at h
    split
    · split <;> omega
    · omega
def zeroW (w : List UInt8) : Bool := decide (w.count 0 = 8)
def fewW (w : List UInt8) : Bool := decide (w.count 0 ≤ 1)
/-- Words, packed. -/
def packL : Nat → List UInt8 → List UInt8
  | 0, _ => []
  | n + 1, t => if t = [] then [] else
    UInt8.ofNat (tagL (t.take 8) 0) :: ((t.take 8).filter notZero ++
      (if tagL (t.take 8) 0 = 0 then UInt8.ofNat (folL zeroW 255 (t.drop 8)) :: packL n ((t.drop 8).drop (8 * folL zeroW 255 (t.drop 8)))
       else if tagL (t.take 8) 0 = 255 then UInt8.ofNat (folL fewW 255 (t.drop 8)) :: ((t.drop 8).take (8 * folL fewW 255 (t.drop 8)) ++ packL n ((t.drop 8).drop (8 * folL fewW 255 (t.drop 8))))
       else packL n (t.drop 8)))
def packV (s : ByteArray) : ByteArray := B (packL (s.size + 1) s.data.toList)
theorem or_tag : ∀ (x : Fin 256) (i : Fin 8), x.1 < 2 ^ i.1 → Go.bits .or .i64 ((x.1 : Nat) : Int) (wrap64 ((2 : Int) ^ i.1)) = ((x.1 + 2 ^ i.1 : Nat) : Int) := by decide +kernel
end Go.Proofs.YteocobbddngllaaDoor.Lem
