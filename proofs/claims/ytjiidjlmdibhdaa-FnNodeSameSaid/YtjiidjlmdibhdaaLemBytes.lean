/- The bytes of a number, the lowest first: of the program's and the reference's functions. -/
import Derived.Test.YtjiidjlmdibhdaaLemBits
import Derived.KernelRfl
import Derived.Test.YtjiidjlmdibhdaaPx4
namespace Go.Proofs.Ytjiidjlmdibhdaa.Lem
set_option linter.unusedVariables false
open Go Go.RowKit Go.Proofs.Ytjiidjlmdibhdaa.P Go.Proofs.YtjiidjlmdibhdaaW.PrintWords Go.Proofs.YtjiidjlmdibhdaaW.PrintLast Go.Proofs.YtjiidjlmdibhdaaW.PrintMore

/-- The bytes of a number, the lowest first. -/
def leB (n : Int) (d : Nat) : List Int := (List.range d).map fun i => n / 256 ^ i % 256
theorem leB_succ (n : Int) (d : Nat) : leB n (d + 1) = leB n d ++ [n / 256 ^ d % 256] := by unfold leB; rw [List.range_succ, List.map_append]; rfl
theorem leB_length (n : Int) (d : Nat) : (leB n d).length = d := by simp [leB]
theorem l1Bytes_l0 (n : Int) (size : Nat) (hs : size ≤ 1000000) : ∀ (d k i : Nat), i + d = size → d < k →
    spec_l1Bytes.l0 k (n / 256 ^ i) size (leB n i) i = some (strOfNums (leB n size)) := by
  intro d
  induction d with
  | zero =>
    intro k i hi hk
    obtain ⟨k, rfl⟩ : ∃ m, k = m + 1 := ⟨k - 1, by omega⟩
    simp only [spec_l1Bytes.l0]
    obtain rfl : i = size := by omega
    rw [if_neg (by omega)]
  | succ d ih =>
    intro k i hi hk
    obtain ⟨k, rfl⟩ : ∃ m, k = m + 1 := ⟨k - 1, by omega⟩
    simp only [spec_l1Bytes.l0]
    rw [if_pos (by omega), if_pos (by rw [leB_length]; omega), ← leB_succ, wrap64_id (by omega) (by omega)]
    have e : n / 256 ^ i / 256 = n / 256 ^ (i + 1) := by rw [Int.pow_succ, Int.ediv_ediv_of_nonneg]; exact Int.le_of_lt (Int.pow_pos (by decide))
    rw [e]
    have := ih k (i + 1) (by omega) (by omega)
    rw [← this]; rfl
theorem l1Bytes_f (n : Int) (size : Nat) (hs : size ≤ 1000000) (k : Nat) (hk : size < k) : spec_l1Bytes.f k n size = some (strOfNums (leB n size)) := by
  unfold spec_l1Bytes.f
  have := l1Bytes_l0 n size hs size k 0 (by omega) hk
  rw [← this]; simp [leB]
end Go.Proofs.Ytjiidjlmdibhdaa.Lem
