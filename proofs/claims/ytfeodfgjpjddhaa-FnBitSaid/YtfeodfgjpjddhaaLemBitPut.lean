/- What BitPut answers, of the program and of the reference: one plain function. -/
import Derived.Test.YtfeodfgjpjddhaaLemBit
import Derived.Test.YtfeodfgjpjddhaaLemPut
import Derived.Test.YtfeodfgjpjddhaaStubBitPut
import Derived.Test.YtfeodfgjpjddhaaPx10
import Derived.Test.YtfeodfgjpjddhaaPx13
import Derived.Test.YtfeodfgjpjddhaaPx19
import Derived.Test.YtfeodfgjpjddhaaPx26
import Derived.Test.YtfeodfgjpjddhaaPx27
import Derived.Test.YtfeodfgjpjddhaaPx28
namespace Go.Proofs.Ytfeodfgjpjddhaa.Lem
set_option linter.unusedVariables false
open Go Go.RowKit Go.Proofs.Ytfeodfgjpjddhaa Go.Proofs.Ytfeodfgjpjddhaa.P Go.Proofs.YtfeodfgjpjddhaaW.PrintWords Go.Proofs.YtfeodfgjpjddhaaW.PrintLast Go.Proofs.YtfeodfgjpjddhaaW.PrintMore

theorem toNat_ofNat_nonneg (n : Nat) : UInt8.ofNat (n : Int).toNat = UInt8.ofNat n := by rw [Int.toNat_natCast]
theorem strOf_bytesOf (s : ByteArray) : strOfNums (bytesOf s) = s := by
  unfold strOfNums bytesOf
  have : (s.data.toList.map fun b => (b.toNat : Int)).map (fun n => UInt8.ofNat n.toNat) = s.data.toList := by
    rw [List.map_map]
    conv => rhs; rw [← List.map_id s.data.toList]
    apply List.map_congr_left
    intro b _
    simp
  rw [this]
theorem strOfNums_append (a b : List Int) : strOfNums (a ++ b) = strOfNums a ++ strOfNums b := by
  apply ByteArray.ext
  simp [strOfNums]
theorem bytesOf_extract (s : ByteArray) (a b : Nat) : bytesOf (s.extract a b) = (bytesOf s).extract a b := by
  unfold bytesOf
  simp [ByteArray.data_extract, List.map_take, List.map_drop]
theorem extract_strOf (s : ByteArray) (a b : Nat) : s.extract a b = strOfNums ((bytesOf s).extract a b) := by
  rw [← bytesOf_extract, strOf_bytesOf]
theorem set_split (s : ByteArray) (i : Nat) (x : Int) (hi : i < s.size) : strOfNums ((bytesOf s).set i x) = s.extract 0 i ++ strOfNums [x] ++ s.extract (i + 1) s.size := by
  rw [extract_strOf, extract_strOf, ← strOfNums_append, ← strOfNums_append]
  congr 1
  have hl : i < (bytesOf s).length := by rw [bytesOf_length]; exact hi
  rw [List.set_eq_take_append_cons_drop, if_pos hl, List.extract_eq_take_drop, List.extract_eq_take_drop]
  simp only [List.drop_zero, Nat.sub_zero, List.append_assoc, List.singleton_append]
  rw [List.take_of_length_le (l := (bytesOf s).drop (i + 1)) (by rw [List.length_drop, bytesOf_length]; omega)]
/-- Words with a bit put into them, and whether it was. -/
def bitPutV (s : ByteArray) (a b : Int) : ByteArray × Bool :=
  if IsW s then if 0 ≤ a ∧ a / 8 < (s.size : Int) ∧ 0 ≤ b ∧ b ≤ 1 then (strOfNums ((bytesOf s).set (a / 8).toNat (bitByte (bt s (a / 8)) (a % 8) b)), true) else (s, false) else (⟨#[]⟩, false)
theorem specBitPut_f (s : ByteArray) (a b : Int) : spec_BitPut.f s a b = some (bitPutV s a b) := by
  unfold spec_BitPut.f bitPutV
  rw [l1Ok_f]
  simp only [Option.bind_some]
  by_cases h1 : IsW s
  · have hz : (s.size : Int) ≤ 1600 := h1.2
    rw [if_pos (by simpa using h1), if_pos h1, wrap64_id (n := 8 * (s.size : Int)) (by omega) (by omega)]
    by_cases h2 : a < 0
    · rw [if_pos h2, if_neg (by omega)]
    · rw [if_neg h2]
      by_cases h3 : a ≥ 8 * (s.size : Int)
      · rw [if_pos h3, if_neg (by omega)]
      · rw [if_neg h3, l1In_f]
        simp only [Option.bind_some]
        by_cases h4 : 0 ≤ b ∧ b ≤ 1
        · rw [if_pos (by simpa using h4), if_pos ⟨by omega, by omega, h4⟩]
          unfold spec_l1BitPut.f
          rw [if_pos ⟨by omega, by omega, by omega, h4⟩]; rfl
        · rw [if_neg (by simpa using h4), if_neg (fun h => h4 h.2.2)]
  · rw [if_neg (by simpa using h1), if_neg h1]
theorem bitByte_eq (x j b : Int) (hj : 0 ≤ j) (hj8 : j < 8) (h0 : 0 ≤ b) (h1 : b ≤ 1) : Go.bits .or .u8 (Go.bits .andNot .u8 x (shl .u8 1 j)) (shl .u8 (b % 256) j) = bitByte x j b := by
  unfold bitByte shl
  have hm : min j.toNat IntKind.u8.bits = j.toNat := Nat.min_eq_left (by show j.toNat ≤ 8; omega)
  have hp : (0 : Int) < 2 ^ j.toNat := Int.pow_pos (by decide)
  have hp2 : (2 : Int) ^ j.toNat ≤ 128 := by
    have : j.toNat ≤ 7 := by omega
    have h : 2 ^ j.toNat ≤ 2 ^ 7 := Nat.pow_le_pow_right (by decide) this
    have h2 : ((2 ^ j.toNat : Nat) : Int) ≤ 128 := by omega
    simpa using h2
  rw [hm, IntKind.wrap_u8', IntKind.wrap_u8', Int.one_mul]
  rcases (by omega : b = 0 ∨ b = 1) with rfl | rfl
  · simp [wrap64]
  · rw [show (1 : Int) % 256 = 1 from rfl, Int.one_mul, wrap64_id (by omega) (by omega)]
theorem withBit_f (s : ByteArray) (a b : Int) (hz : s.size ≤ 1000000) (ha : 0 ≤ a) (hA : a / 8 < (s.size : Int)) (h0 : 0 ≤ b) (h1 : b ≤ 1) :
    impl_withBit.f s a b = some (strOfNums ((bytesOf s).set (a / 8).toNat (bitByte (bt s (a / 8)) (a % 8) b))) := by
  unfold impl_withBit.f
  rw [Int.tdiv_eq_ediv_of_nonneg ha, Int.tmod_eq_emod_of_nonneg ha, wrap64_id (n := a / 8) (by omega) (by omega), if_pos (by omega), if_pos hA, if_pos (by omega), bitByte_eq _ _ _ (by omega) (by omega) h0 h1,
    stored_f s _ (a / 8) (by omega) (by rw [strOfNums_size]; simp; omega) hz, strOfNums_size, set_split s _ _ (by omega)]
  rfl
theorem implBitPut_f (s : ByteArray) (a b : Int) (ha : a < 9223372036854775808) : impl_BitPut.f s a b = some (bitPutV s a b) := by
  unfold impl_BitPut.f bitPutV
  rw [isWords_f]
  simp only [Option.bind_some]
  by_cases h1 : IsW s
  · have hz : (s.size : Int) ≤ 1600 := h1.2
    rw [if_pos (by simpa using h1), if_pos h1]
    by_cases h2 : a < 0
    · rw [if_pos h2, if_neg (by omega)]
    · rw [if_neg h2, Int.tdiv_eq_ediv_of_nonneg (by omega)]
      rw [wrap64_id (n := a / 8) (by omega) (by omega)]
      by_cases h3 : a / 8 ≥ (s.size : Int)
      · rw [if_pos h3, if_neg (by omega)]
      · rw [if_neg h3, in_f]
        simp only [Option.bind_some]
        by_cases h4 : 0 ≤ b ∧ b ≤ 1
        · rw [if_pos (by simpa using h4), if_pos ⟨by omega, by omega, h4⟩, withBit_f s a b (by omega) (by omega) (by omega) h4.1 h4.2]
          rfl
        · rw [if_neg (by simpa using h4), if_neg (fun h => h4 h.2.2)]
  · rw [if_neg (by simpa using h1), if_neg h1]
end Go.Proofs.Ytfeodfgjpjddhaa.Lem
