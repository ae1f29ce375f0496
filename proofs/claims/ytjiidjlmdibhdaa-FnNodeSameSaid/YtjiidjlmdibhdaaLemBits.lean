/- Plain facts on whole numbers and bits: a number's bytes, joined by 'or', are their sum; no program is named here. -/
import Derived.Laws.BitsAllLaws
import Derived.RowKit
import Derived.OpenShut
namespace Go.Proofs.Ytjiidjlmdibhdaa.Lem
set_option linter.unusedVariables false
open Go Go.RowKit

theorem wrap64_eq (n : Int) : IntKind.i64.wrap n = wrap64 n := by
  unfold wrap64
  simp [IntKind.wrap, IntKind.bits, IntKind.signed]
  split <;> omega
theorem wf_bounds {n : Int} (h : (Lit.int .i64 n).wf = true) : -9223372036854775808 ≤ n ∧ n < 9223372036854775808 := by
  have := bounds_i64 h
  omega
theorem wrap64_id {n : Int} (h0 : -9223372036854775808 ≤ n) (h1 : n < 9223372036854775808) : wrap64 n = n := by unfold wrap64; omega
theorem wrap64_wrap (n : Int) : wrap64 (wrap64 n) = wrap64 n := by unfold wrap64; omega
theorem u64_id {n : Int} (h0 : 0 ≤ n) (h1 : n < 18446744073709551616) : IntKind.u64.wrap n = n := by rw [IntKind.wrap_u64]; omega

theorem ofInt_nat64 (a : Int) : (BitVec.ofInt 64 a).toNat = (a % 18446744073709551616).toNat := by
  rw [BitVec.toNat_ofInt]; rfl
theorem or_i64 (a b : Int) : Go.bits .or .i64 a b = wrap64 (((a % 18446744073709551616).toNat ||| (b % 18446744073709551616).toNat : Nat) : Int) := by
  show IntKind.i64.wrap ((BitVec.ofInt 64 a ||| BitVec.ofInt 64 b).toNat : Int) = _
  rw [BitVec.toNat_or, ofInt_nat64, ofInt_nat64, wrap64_eq]
theorem and_i64 (a b : Int) : Go.bits .and .i64 a b = wrap64 (((a % 18446744073709551616).toNat &&& (b % 18446744073709551616).toNat : Nat) : Int) := by
  show IntKind.i64.wrap ((BitVec.ofInt 64 a &&& BitVec.ofInt 64 b).toNat : Int) = _
  rw [BitVec.toNat_and, ofInt_nat64, ofInt_nat64, wrap64_eq]
theorem xor_i64 (a b : Int) : Go.bits .xor .i64 a b = wrap64 (((a % 18446744073709551616).toNat ^^^ (b % 18446744073709551616).toNat : Nat) : Int) := by
  show IntKind.i64.wrap ((BitVec.ofInt 64 a ^^^ BitVec.ofInt 64 b).toNat : Int) = _
  rw [BitVec.toNat_xor, ofInt_nat64, ofInt_nat64, wrap64_eq]
theorem or_u64 (a b : Int) : Go.bits .or .u64 a b = IntKind.u64.wrap (((a % 18446744073709551616).toNat ||| (b % 18446744073709551616).toNat : Nat) : Int) := by
  show IntKind.u64.wrap ((BitVec.ofInt 64 a ||| BitVec.ofInt 64 b).toNat : Int) = _
  rw [BitVec.toNat_or, ofInt_nat64, ofInt_nat64]

/-- A byte joined to what has been moved up by one byte. -/
theorem join_i64 (x b : Int) (h0 : 0 ≤ b) (h1 : b ≤ 255) : Go.bits .or .i64 (wrap64 (x * 256)) b = wrap64 (x * 256 + b) := by
  rw [or_i64]
  have e1 : (wrap64 (x * 256) % 18446744073709551616).toNat = 256 * (x % 72057594037927936).toNat := by unfold wrap64; omega
  have e2 : (b % 18446744073709551616).toNat = b.toNat := by omega
  rw [e1, e2, nat_join 8 _ _ (by omega) (by omega)]
  unfold wrap64; omega
theorem join_u64 (x b : Int) (h0 : 0 ≤ b) (h1 : b ≤ 255) : Go.bits .or .u64 (IntKind.u64.wrap (x * 256)) (IntKind.u64.wrap b) = IntKind.u64.wrap (x * 256 + b) := by
  rw [or_u64]
  have e1 : (IntKind.u64.wrap (x * 256) % 18446744073709551616).toNat = 256 * (x % 72057594037927936).toNat := by rw [IntKind.wrap_u64]; omega
  have e2 : (IntKind.u64.wrap b % 18446744073709551616).toNat = b.toNat := by rw [IntKind.wrap_u64]; omega
  rw [e1, e2, nat_join 8 _ _ (by omega) (by omega), IntKind.wrap_u64, IntKind.wrap_u64]
  omega
theorem and1_i64 (x : Int) (h0 : 0 ≤ x) (h1 : x < 9223372036854775808) : Go.bits .and .i64 x 1 = x % 2 := by
  rw [and_i64]
  have e1 : (x % 18446744073709551616).toNat = x.toNat := by omega
  have e2 : ((1 : Int) % 18446744073709551616).toNat = 1 := by decide
  rw [e1, e2, nat_mask1]
  unfold wrap64; omega
end Go.Proofs.Ytjiidjlmdibhdaa.Lem
