/- What stands in words behind a Put: the number at its place, and all other bytes as they were. -/
import Derived.Test.YteocobbddngllaaDoorLemGet
import Derived.Test.YteocobbddngllaaDoorLemBytes
import Derived.Test.YteocobbddngllaaDoorLemA
namespace Go.Proofs.YteocobbddngllaaDoor.Lem
set_option linter.unusedVariables false
open Go Go.RowKit Go.Proofs.YteocobbddngllaaDoor.P Go.Proofs.YteocobbddngllaaDoorW.PrintWords Go.Proofs.YteocobbddngllaaDoorW.PrintLast Go.Proofs.YteocobbddngllaaDoorW.PrintMore

theorem bt_nat (s : ByteArray) (i : Nat) (h : i < s.size) : bt s (i : Int) = ((s[i]'h).toNat : Int) := by
  rw [← bt_at s (i : Int) (by omega)]; rfl
theorem bt_ext {s t : ByteArray} (hz : s.size = t.size) (h : ∀ i : Nat, i < s.size → bt s (i : Int) = bt t (i : Int)) : s = t := by
  apply ByteArray.ext
  apply Array.ext
  · exact hz
  · intro i h1 h2
    have hi : i < s.size := h1
    have hj : i < t.size := h2
    have e := h i hi
    rw [bt_nat s i hi, bt_nat t i hj] at e
    have e2 : (s[i]'hi).toNat = (t[i]'hj).toNat := by omega
    exact UInt8.toNat_inj.1 e2
theorem bt_append (s t : ByteArray) (i : Nat) : bt (s ++ t) (i : Int) = if i < s.size then bt s (i : Int) else bt t ((i - s.size : Nat) : Int) := by
  rw [bt_data, bt_data, bt_data]
  have e : (s ++ t).data.toList = s.data.toList ++ t.data.toList := by rw [ByteArray.data_append]; simp
  rw [e, List.getElem?_append, data_length]
  split <;> rfl
theorem bt_extract (s : ByteArray) (a b i : Nat) (hb : b ≤ s.size) : bt (s.extract a b) (i : Int) = if i < b - a then bt s ((a + i : Nat) : Int) else 0 := by
  rw [bt_data, bt_data]
  have e : (s.extract a b).data.toList = (s.data.toList.drop a).take (b - a) := by
    rw [ByteArray.data_extract, Array.toList_extract, List.extract_eq_take_drop]
  rw [e, List.getElem?_take]
  split
  · rw [List.getElem?_drop]
  · rfl
theorem bt_strOf (xs : List Int) (i : Nat) (h : ∀ x ∈ xs, 0 ≤ x ∧ x ≤ 255) : bt (strOfNums xs) (i : Int) = xs.getD i 0 := by
  rw [bt_data, strOfNums_data, List.getElem?_map, List.getD_eq_getElem?_getD]
  rcases Nat.lt_or_ge i xs.length with hl | hl
  · rw [List.getElem?_eq_getElem hl]
    have hx := h _ (List.getElem_mem hl)
    simp only [Option.map_some, Option.getD_some]
    rw [UInt8.toNat_ofNat']
    omega
  · rw [List.getElem?_eq_none hl]; rfl
theorem leB_range (m : Int) (d : Nat) : ∀ x ∈ leB m d, 0 ≤ x ∧ x ≤ 255 := by
  intro x hx
  unfold leB at hx
  obtain ⟨i, _, rfl⟩ := List.mem_map.1 hx
  omega
theorem leB_get (m : Int) (d i : Nat) (h : i < d) : (leB m d).getD i 0 = m / 256 ^ i % 256 := by
  unfold leB
  rw [List.getD_eq_getElem?_getD, List.getElem?_map, List.getElem?_range h]; rfl
theorem wrap_digit (v : Int) (j : Nat) (hj : j < 8) : wrap64 v / 256 ^ j % 256 = v / 256 ^ j % 256 := by
  match j, hj with
  | 0, _ => show wrap64 v / 1 % 256 = v / 1 % 256; unfold wrap64; omega
  | 1, _ => show wrap64 v / 256 % 256 = v / 256 % 256; unfold wrap64; omega
  | 2, _ => show wrap64 v / 65536 % 256 = v / 65536 % 256; unfold wrap64; omega
  | 3, _ => show wrap64 v / 16777216 % 256 = v / 16777216 % 256; unfold wrap64; omega
  | 4, _ => show wrap64 v / 4294967296 % 256 = v / 4294967296 % 256; unfold wrap64; omega
  | 5, _ => show wrap64 v / 1099511627776 % 256 = v / 1099511627776 % 256; unfold wrap64; omega
  | 6, _ => show wrap64 v / 281474976710656 % 256 = v / 281474976710656 % 256; unfold wrap64; omega
  | 7, _ => show wrap64 v / 72057594037927936 % 256 = v / 72057594037927936 % 256; unfold wrap64; omega
/-- A text with some bytes in place of others. -/
def splice (s b : ByteArray) (a : Nat) : ByteArray := s.extract 0 a ++ b ++ s.extract (a + b.size) s.size
theorem splice_size (s b : ByteArray) (a : Nat) (h : a + b.size ≤ s.size) : (splice s b a).size = s.size := by
  unfold splice; rw [ByteArray.size_append, ByteArray.size_append, ByteArray.size_extract, ByteArray.size_extract]; omega
theorem splice_bt (s b : ByteArray) (a i : Nat) (h : a + b.size ≤ s.size) (hi : i < s.size) : bt (splice s b a) (i : Int) = if a ≤ i ∧ i < a + b.size then bt b ((i - a : Nat) : Int) else bt s (i : Int) := by
  unfold splice
  have z1 : (s.extract 0 a).size = a := by rw [ByteArray.size_extract]; omega
  rw [bt_append, bt_append, ByteArray.size_append, z1]
  by_cases h1 : i < a
  · rw [if_pos (by omega), if_pos h1, if_neg (by omega), bt_extract _ _ _ _ (by omega), if_pos (by omega)]
    congr 2; omega
  · by_cases h2 : i < a + b.size
    · rw [if_pos h2, if_neg h1, if_pos ⟨by omega, h2⟩]
    · rw [if_neg h2, if_neg (by omega), bt_extract _ _ _ _ (Nat.le_refl _), if_pos (by omega)]
      congr 2; omega
theorem acc_same (s t : ByteArray) (a b : Int) : ∀ (d : Nat) (x : Int), (∀ j : Nat, j < d → bt s (a + j) = bt t (b + j)) → acc s a d x = acc t b d x
  | 0, x, _ => rfl
  | d + 1, x, h => by
    simp only [acc]
    rw [h d (by omega)]
    exact acc_same s t a b d _ (fun j hj => h j (by omega))
theorem emod_mul256 (m : Int) (p : Int) (hp : 0 < p) : m % (p * 256) = m % p + p * (m / p % 256) := by
  have h1 := Int.emod_add_mul_ediv m p
  have h2 := Int.emod_add_mul_ediv (m / p) 256
  have h3 := Int.emod_add_mul_ediv m (p * 256)
  have h4 : m / (p * 256) = m / p / 256 := by rw [Int.ediv_ediv_of_nonneg (by omega)]
  rw [h4] at h3
  generalize m / p = q at *
  generalize q / 256 = r at *
  have e : p * 256 * r = p * (256 * r) := by rw [Int.mul_assoc]
  have e2 : p * q = p * (q % 256) + p * (256 * r) := by rw [← Int.mul_add, h2]
  omega
theorem acc_num (s : ByteArray) (a m : Int) : ∀ (d : Nat), (∀ j : Nat, j < d → bt s (a + j) = m / 256 ^ j % 256) → acc s a d 0 = m % 256 ^ d
  | 0, _ => by simp [acc, Int.emod_one]
  | d + 1, h => by
    have hp : (0 : Int) < 256 ^ d := Int.pow_pos (by decide)
    simp only [acc]
    rw [acc_plus, acc_num s a m d (fun j hj => h j (by omega)), h d (by omega), Int.pow_succ, emod_mul256 m _ hp, Int.zero_mul, Int.zero_add, Int.mul_comm (m / 256 ^ d % 256)]
    omega
/-- The digits of what some bytes are are these bytes. -/
theorem acc_digit (s : ByteArray) (a : Int) : ∀ (d j : Nat), j < d → acc s a d 0 / 256 ^ j % 256 = bt s (a + j)
  | 0, j, h => by omega
  | d + 1, j, h => by
    have hp : (0 : Int) < 256 ^ d := Int.pow_pos (by decide)
    have hr := acc_range s a d
    have hb := bt_range s (a + d)
    simp only [acc]
    rw [acc_plus, Int.zero_mul, Int.zero_add]
    rcases Nat.lt_or_ge j d with hj | hj
    · have ih := acc_digit s a d j hj
      rw [← ih]
      have hq : (256 : Int) ^ d = 256 ^ j * (256 * 256 ^ (d - j - 1)) := by
        rw [← Int.pow_succ', ← Int.pow_add]; congr 1; omega
      have hpj : (0 : Int) < 256 ^ j := Int.pow_pos (by decide)
      rw [hq]
      generalize (256 : Int) ^ (d - j - 1) = u
      generalize bt s (a + d) = b at *
      have e : b * (256 ^ j * (256 * u)) + acc s a d 0 = acc s a d 0 + 256 ^ j * (b * (256 * u)) := by
        rw [Int.mul_left_comm]; omega
      rw [e, Int.add_mul_ediv_left _ _ (by omega)]
      have e2 : b * (256 * u) = 256 * (b * u) := by rw [Int.mul_left_comm]
      rw [e2]
      omega
    · obtain rfl : j = d := by omega
      have e : bt s (a + j) * 256 ^ j + acc s a j 0 = acc s a j 0 + 256 ^ j * bt s (a + j) := by rw [Int.mul_comm]; omega
      rw [e, Int.add_mul_ediv_left _ _ (by omega), Int.ediv_eq_zero_of_lt hr.1 hr.2]
      omega
end Go.Proofs.YteocobbddngllaaDoor.Lem
