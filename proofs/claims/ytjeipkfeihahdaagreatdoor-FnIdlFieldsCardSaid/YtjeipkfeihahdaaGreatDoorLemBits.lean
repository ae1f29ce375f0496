/- Plain facts on whole numbers and bits: a number's bytes, joined by 'or', are their sum; no program is named here. -/
import Derived.Laws.BitsAllLaws
import Derived.RowKit
import Derived.OpenShut
namespace Go.Proofs.YtjeipkfeihahdaaGreatDoor.Lem
set_option linter.unusedVariables false
open Go Go.RowKit

theorem wrap64_eq (n : Int) : IntKind.i64.wrap n = wrap64 n := by
  unfold wrap64
  simp [IntKind.wrap, IntKind.bits, IntKind.signed]
  split <;> omega
theorem wrap64_id {n : Int} (h0 : -9223372036854775808 ≤ n) (h1 : n < 9223372036854775808) : wrap64 n = n := by unfold wrap64; omega
theorem ofInt_nat64 (a : Int) : (BitVec.ofInt 64 a).toNat = (a % 18446744073709551616).toNat := by
  rw [BitVec.toNat_ofInt]; rfl
theorem xor_i64 (a b : Int) : Go.bits .xor .i64 a b = wrap64 (((a % 18446744073709551616).toNat ^^^ (b % 18446744073709551616).toNat : Nat) : Int) := by
  show IntKind.i64.wrap ((BitVec.ofInt 64 a ^^^ BitVec.ofInt 64 b).toNat : Int) = _
  rw [BitVec.toNat_xor, ofInt_nat64, ofInt_nat64, wrap64_eq]
end Go.Proofs.YtjeipkfeihahdaaGreatDoor.Lem
