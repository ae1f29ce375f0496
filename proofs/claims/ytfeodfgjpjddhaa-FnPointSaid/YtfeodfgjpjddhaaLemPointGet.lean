/- What PointGet answers, of the program and of the reference: one plain function of the word's two halves. -/
import Derived.Test.YtfeodfgjpjddhaaLemPut2
import Derived.Test.YtfeodfgjpjddhaaPx2
import Derived.Test.YtfeodfgjpjddhaaPx3
namespace Go.Proofs.Ytfeodfgjpjddhaa.Lem
set_option linter.unusedVariables false
set_option linter.unusedSimpArgs false
open Go Go.RowKit Go.Proofs.Ytfeodfgjpjddhaa.P Go.Proofs.YtfeodfgjpjddhaaW.PrintWords Go.Proofs.YtfeodfgjpjddhaaW.PrintLast Go.Proofs.YtfeodfgjpjddhaaW.PrintMore
theorem mask_i64 (x : Int) (i : Nat) (hi : i ≤ 32) (h0 : 0 ≤ x) (h1 : x < 9223372036854775808) : Go.bits .and .i64 x ((2 ^ i - 1 : Nat) : Int) = x % ((2 ^ i : Nat) : Int) := by
  have hp : 2 ^ i ≤ 2 ^ 32 := Nat.pow_le_pow_right (by decide) hi
  have hp1 : 1 ≤ 2 ^ i := Nat.one_le_two_pow
  rw [and_i64]
  have e1 : (x % 18446744073709551616).toNat = x.toNat := by omega
  have e2 : (((2 ^ i - 1 : Nat) : Int) % 18446744073709551616).toNat = 2 ^ i - 1 := by generalize (2 : Nat) ^ i = q at *; omega
  rw [e1, e2, Nat.and_two_pow_sub_one_eq_mod]
  have hm : x.toNat % 2 ^ i ≤ x.toNat := Nat.mod_le _ _
  rw [wrap64_id (by omega) (by omega), Int.natCast_emod]
  congr 1; omega
theorem mask_u64 (x : Int) (i : Nat) (hi : i ≤ 32) (h0 : 0 ≤ x) (h1 : x < 18446744073709551616) : Go.bits .and .u64 x ((2 ^ i - 1 : Nat) : Int) = x % ((2 ^ i : Nat) : Int) := by
  have hp : 2 ^ i ≤ 2 ^ 32 := Nat.pow_le_pow_right (by decide) hi
  have hp1 : 1 ≤ 2 ^ i := Nat.one_le_two_pow
  rw [u64_and _ _ h0 h1 (by omega) (by generalize (2 : Nat) ^ i = q at *; omega)]
  have e2 : (((2 ^ i - 1 : Nat) : Int)).toNat = 2 ^ i - 1 := by omega
  rw [e2, Nat.and_two_pow_sub_one_eq_mod, Int.natCast_emod]
  congr 1; omega
theorem bit4_i64 (x : Int) (h0 : 0 ≤ x) (h1 : x < 9223372036854775808) : Go.bits .and .i64 x 4 = x / 4 % 2 * 4 := by
  rw [and_i64]
  have e1 : (x % 18446744073709551616).toNat = x.toNat := by omega
  have e2 : ((4 : Int) % 18446744073709551616).toNat = 2 ^ 2 := by decide
  rw [e1, e2, nat_bit]
  have hm : x.toNat / 2 ^ 2 % 2 < 2 := Nat.mod_lt _ (by decide)
  have e3 : (2 : Nat) ^ 2 = 4 := rfl
  rw [e3] at *
  rw [wrap64_id (by omega) (by omega)]
  omega
theorem bit4_u64 (x : Int) (h0 : 0 ≤ x) (h1 : x < 18446744073709551616) : Go.bits .and .u64 x 4 = x / 4 % 2 * 4 := by
  rw [u64_and _ _ h0 h1 (by omega) (by omega)]
  have e2 : (4 : Int).toNat = 2 ^ 2 := by decide
  rw [e2, nat_bit]
  have e3 : (2 : Nat) ^ 2 = 4 := rfl
  rw [e3]
  omega
/-- A place of thirty bits, below 0 in the upper half. -/
def sgn30 (x : Int) : Int := if x ≥ 536870912 then x - 1073741824 else x
/-- What the pointer of two halves is. -/
def pointV (lo hi : Int) : Int × Int × Int × Int × Int × Int × Int × Bool :=
  if lo = 0 ∧ hi = 0 then (0, 0, 0, 0, 0, 0, 0, false)
  else if lo % 4 = 0 then (1, sgn30 (lo / 4), hi % 65536, hi / 65536, 0, 0, 0, false)
  else if lo % 4 = 1 then (2, sgn30 (lo / 4), 0, 0, hi % 8, hi / 8, 0, false)
  else if lo % 4 = 2 then (3, lo / 8, 0, 0, 0, 0, hi, (lo / 4 % 2 * 4 != 0))
  else (4, 0, 0, 0, 0, 0, 0, false)
theorem signed_f (x : Int) (h0 : 0 ≤ x) (h1 : x < 4294967296) : spec_l2Signed.f x = some (sgn30 x) := by
  unfold spec_l2Signed.f sgn30
  by_cases h : x ≥ 536870912
  · rw [if_pos h, if_pos h, wrap64_id (by omega) (by omega)]
  · rw [if_neg h, if_neg h]
def half (s : ByteArray) (a : Int) : Int := acc s a 4 0
theorem half_range (s : ByteArray) (a : Int) : 0 ≤ half s a ∧ half s a < 4294967296 := acc_range s a 4
theorem acc8 (s : ByteArray) : acc s 0 8 0 = half s 4 * 4294967296 + half s 0 := by
  unfold half
  simp only [acc, Int.zero_mul, Int.zero_add]
  have e0 : (4 : Int) + ((0 : Nat) : Int) = ((4 : Nat) : Int) := rfl
  have e1 : (4 : Int) + ((1 : Nat) : Int) = ((5 : Nat) : Int) := rfl
  have e2 : (4 : Int) + ((2 : Nat) : Int) = ((6 : Nat) : Int) := rfl
  have e3 : (4 : Int) + ((3 : Nat) : Int) = ((7 : Nat) : Int) := rfl
  simp only [e0, e1, e2, e3]
  omega
theorem l2Get_f (s : ByteArray) (k : Nat) (hk : 10 < k) : spec_l2Get.f k s = some (pointV (half s 0) (half s 4)) := by
  obtain ⟨k, rfl⟩ : ∃ m, k = m + 1 := ⟨k - 1, by omega⟩
  unfold spec_l2Get.f
  have r0 := half_range s 0
  have r4 := half_range s 4
  have g0 : spec_l1Get.f (k + 1) s 0 4 = some (half s 0) := by
    rw [l1Get_f s 0 4 (by omega) (by omega) (by omega) (by omega) _ (by omega)]
    show some (wrap64 (half s 0)) = _
    rw [wrap64_id (by omega) (by omega)]
  have g4 : spec_l1Get.f (k + 1) s 4 4 = some (half s 4) := by
    rw [l1Get_f s 4 4 (by omega) (by omega) (by omega) (by omega) _ (by omega)]
    show some (wrap64 (half s 4)) = _
    rw [wrap64_id (by omega) (by omega)]
  rw [g0, Option.bind_some, g4, Option.bind_some]
  generalize half s 0 = lo at *
  generalize half s 4 = hi at *
  have main : ∀ x9 : Bool, x9 = decide (lo = 0 ∧ hi = 0) → spec_l2Get.j0 (k + 1) lo hi x9 = some (pointV lo hi) := by
    intro x9 h9
    subst h9
    simp only [spec_l2Get.j0]
    unfold pointV
    by_cases hz : lo = 0 ∧ hi = 0
    · rw [if_pos (decide_eq_true hz), if_pos hz]
    · rw [if_neg (by simpa using hz), if_neg hz]
      have m3 : Go.bits .and .i64 lo 3 = lo % 4 := mask_i64 lo 2 (by decide) (by omega) (by omega)
      have m16 : Go.bits .and .i64 hi 65535 = hi % 65536 := mask_i64 hi 16 (by decide) (by omega) (by omega)
      have m7 : Go.bits .and .i64 hi 7 = hi % 8 := mask_i64 hi 3 (by decide) (by omega) (by omega)
      rw [m3, m16, m7, bit4_i64 lo (by omega) (by omega), signed_f _ (by omega) (by omega), Option.bind_some, Option.bind_some]
      split
      · rfl
      · split
        · rfl
        · split
          · rfl
          · rfl
  by_cases h0 : lo = 0
  · rw [if_pos h0]; exact main _ (by by_cases hh : hi = 0 <;> simp [h0, hh])
  · rw [if_neg h0]; exact main _ (by simp [h0])
/-- PointGet, as a function. -/
def pointGetV (s : ByteArray) : Int × Int × Int × Int × Int × Int × Int × Bool := if (s.size : Int) = 8 then pointV (half s 0) (half s 4) else (4, 0, 0, 0, 0, 0, 0, false)
theorem specPointGet_f (s : ByteArray) (k : Nat) (hk : 10 < k) : spec_PointGet.f k s = some (pointGetV s) := by
  unfold spec_PointGet.f pointGetV
  by_cases h : (s.size : Int) = 8
  · rw [if_pos h, if_pos h, l2Get_f s k hk, Option.bind_some]
  · rw [if_neg h, if_neg h]
theorem implPointGet_f (s : ByteArray) (k : Nat) (hk : 10 < k) : impl_PointGet.f k s = some (pointGetV s) := by
  unfold impl_PointGet.f pointGetV
  by_cases h : (s.size : Int) = 8
  · rw [if_pos h, if_pos h, fetch_f s 0 8 (by omega) (by omega) (by omega) (by omega) k (by omega), Option.bind_some]
    have e8 : (8 : Int).toNat = 8 := rfl
    rw [e8, acc8]
    have r0 := half_range s 0
    have r4 := half_range s 4
    generalize half s 0 = lo at *
    generalize half s 4 = hi at *
    have en : IntKind.u64.wrap (wrap64 (hi * 4294967296 + lo)) = hi * 4294967296 + lo := by rw [IntKind.wrap_u64]; unfold wrap64; omega
    rw [en]
    have m3 : Go.bits .and .u64 (hi * 4294967296 + lo) 3 = (hi * 4294967296 + lo) % 4 := mask_u64 _ 2 (by decide) (by omega) (by omega)
    have m16 : Go.bits .and .u64 ((hi * 4294967296 + lo) / 4294967296) 65535 = (hi * 4294967296 + lo) / 4294967296 % 65536 := mask_u64 _ 16 (by decide) (by omega) (by omega)
    have m7 : Go.bits .and .u64 ((hi * 4294967296 + lo) / 4294967296) 7 = (hi * 4294967296 + lo) / 4294967296 % 8 := mask_u64 _ 3 (by decide) (by omega) (by omega)
    have m29 : Go.bits .and .u64 ((hi * 4294967296 + lo) / 8) 536870911 = (hi * 4294967296 + lo) / 8 % 536870912 := mask_u64 _ 29 (by decide) (by omega) (by omega)
    rw [m3, m16, m7, m29, bit4_u64 _ (by omega) (by omega)]
    have d0 : (hi * 4294967296 + lo) % 4 = lo % 4 := by omega
    have d1 : (hi * 4294967296 + lo) % 4294967296 = lo := by omega
    have d2 : (hi * 4294967296 + lo) / 4294967296 = hi := by omega
    have d3 : (hi * 4294967296 + lo) / 281474976710656 = hi / 65536 := by omega
    have d4 : (hi * 4294967296 + lo) / 34359738368 = hi / 8 := by omega
    have d5 : (hi * 4294967296 + lo) / 8 % 536870912 = lo / 8 := by omega
    have d6 : (hi * 4294967296 + lo) / 4 % 2 = lo / 4 % 2 := by omega
    have d7 : wrap64 (wrap32 lo) / 4 = sgn30 (lo / 4) := by unfold wrap64 wrap32 sgn30; split <;> omega
    rw [d0, d1, d2, d3, d4, d5, d6, d7, wrap64_id (n := hi % 65536) (by omega) (by omega), wrap64_id (n := hi / 65536) (by omega) (by omega), wrap64_id (n := hi % 8) (by omega) (by omega), wrap64_id (n := hi / 8) (by omega) (by omega),
      wrap64_id (n := lo / 8) (by omega) (by omega), wrap64_id (n := hi) (by omega) (by omega)]
    unfold pointV
    by_cases hz : lo = 0 ∧ hi = 0
    · rw [if_pos (by omega), if_pos hz]
    · rw [if_neg (by omega), if_neg hz]
      split
      · rfl
      · split
        · rfl
        · split
          · rfl
          · rfl
  · rw [if_neg h, if_neg h]
end Go.Proofs.Ytfeodfgjpjddhaa.Lem
