/- Bits of a byte, put and got. -/
import Derived.Test.YtfeodfgjpjddhaaLemBitPut
import Derived.Test.YtfeodfgjpjddhaaLemPut3
namespace Go.Proofs.Ytfeodfgjpjddhaa.Lem
set_option linter.unusedVariables false
open Go Go.RowKit Go.Proofs.Ytfeodfgjpjddhaa Go.Proofs.Ytfeodfgjpjddhaa.P Go.Proofs.YtfeodfgjpjddhaaW.PrintWords Go.Proofs.YtfeodfgjpjddhaaW.PrintLast Go.Proofs.YtfeodfgjpjddhaaW.PrintMore
def bitNat (x j b : Nat) : Nat := (x &&& (255 - 2 ^ j)) ||| (b * 2 ^ j)
theorem bitByte_nat (x j b : Nat) (hx : x < 256) (hj : j < 8) (hb : b < 2) : bitByte (x : Int) (j : Int) (b : Int) = (bitNat x j b : Int) := by
  unfold bitByte bitNat
  have hp : (2 : Nat) ^ j ≤ 128 := Nat.pow_le_pow_right (by decide) (by omega : j ≤ 7)
  have e0 : ((j : Int)).toNat = j := by omega
  have h2 : ((2 ^ j : Nat) : Int) = (2 : Int) ^ j := by rw [Int.natCast_pow]; rfl
  have e1 : (2 : Int) ^ j % 256 = ((2 ^ j : Nat) : Int) := by
    rw [← h2]; clear h2; generalize (2 : Nat) ^ j = q at hp ⊢; omega
  have e2 : wrap64 ((b : Int) * 2 ^ j) % 256 = ((b * 2 ^ j : Nat) : Int) := by
    rcases (by omega : b = 0 ∨ b = 1) with rfl | rfl
    · simp [wrap64]
    · rw [← h2]; clear h2; generalize (2 : Nat) ^ j = q at hp ⊢; unfold wrap64; omega
  rw [e0, e1, e2]
  have hlt : b * 2 ^ j < 256 := by rcases (by omega : b = 0 ∨ b = 1) with rfl | rfl <;> (generalize (2 : Nat) ^ j = q at hp ⊢; omega)
  rw [u8_andNot_nat x (2 ^ j) hx (by generalize (2 : Nat) ^ j = q at hp ⊢; omega)]
  have h3 : x &&& (255 - 2 ^ j) < 256 := Nat.lt_of_le_of_lt Nat.and_le_left hx
  rw [u8_or_nat _ _ h3 hlt]
theorem bitNat_all : ∀ x : Fin 256, ∀ j : Fin 8, ∀ b : Fin 2, bitNat x.1 j.1 b.1 < 256 ∧ bitNat x.1 j.1 b.1 / 2 ^ j.1 % 2 = b.1 ∧ bitNat (bitNat x.1 j.1 b.1) j.1 (x.1 / 2 ^ j.1 % 2) = x.1 := by decide +kernel
theorem eight_bits : ∀ x : Fin 256, 2 * (2 * (2 * (2 * (2 * (2 * (2 * (2 * 0 + x.1 / 2 ^ 7 % 2) + x.1 / 2 ^ 6 % 2) + x.1 / 2 ^ 5 % 2) + x.1 / 2 ^ 4 % 2) + x.1 / 2 ^ 3 % 2) + x.1 / 2 ^ 2 % 2) + x.1 / 2 ^ 1 % 2) + x.1 / 2 ^ 0 % 2 = x.1 := by decide +kernel
end Go.Proofs.Ytfeodfgjpjddhaa.Lem
