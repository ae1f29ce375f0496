/- The bytes of a number, the lowest first: of the program's and the reference's functions. -/
import Derived.Test.YteocobbddngllaaDoorLemA
import Derived.KernelRfl
import Derived.Test.YteocobbddngllaaDoorPx16
import Derived.Test.YteocobbddngllaaDoorPx8
namespace Go.Proofs.YteocobbddngllaaDoor.Lem
set_option linter.unusedVariables false
open Go Go.RowKit Go.Proofs.YteocobbddngllaaDoor.P Go.Proofs.YteocobbddngllaaDoorW.PrintWords Go.Proofs.YteocobbddngllaaDoorW.PrintLast Go.Proofs.YteocobbddngllaaDoorW.PrintMore

/-- The bytes of a number, the lowest first. -/
def leB (n : Int) (d : Nat) : List Int := (List.range d).map fun i => n / 256 ^ i % 256
theorem leB_succ (n : Int) (d : Nat) : leB n (d + 1) = leB n d ++ [n / 256 ^ d % 256] := by unfold leB; rw [List.range_succ, List.map_append]; rfl
theorem leB_length (n : Int) (d : Nat) : (leB n d).length = d := by simp [leB]
theorem l1Bytes_l0 (n : Int) (size : Nat) (hs : size ≤ 1000000) : ∀ (d k i : Nat), i + d = size → d < k →
    spec_l1Bytes.l0 k (n / 256 ^ i) size (leB n i) i = some (strOfNums (leB n size)) := by
  intro d
  induction d with
  | zero =>
    intro k i hi hk
    obtain ⟨k, rfl⟩ : ∃ m, k = m + 1 := ⟨k - 1, by omega⟩
    simp only [spec_l1Bytes.l0]
    obtain rfl : i = size := by omega
    rw [if_neg (by omega)]
  | succ d ih =>
    intro k i hi hk
    obtain ⟨k, rfl⟩ : ∃ m, k = m + 1 := ⟨k - 1, by omega⟩
    simp only [spec_l1Bytes.l0]
    rw [if_pos (by omega), if_pos (by rw [leB_length]; omega), ← leB_succ, wrap64_id (by omega) (by omega)]
    have e : n / 256 ^ i / 256 = n / 256 ^ (i + 1) := by rw [Int.pow_succ, Int.ediv_ediv_of_nonneg]; exact Int.le_of_lt (Int.pow_pos (by decide))
    rw [e]
    have := ih k (i + 1) (by omega) (by omega)
    rw [← this]; rfl
theorem l1Bytes_f (n : Int) (size : Nat) (hs : size ≤ 1000000) (k : Nat) (hk : size < k) : spec_l1Bytes.f k n size = some (strOfNums (leB n size)) := by
  unfold spec_l1Bytes.f
  have := l1Bytes_l0 n size hs size k 0 (by omega) hk
  rw [← this]; simp [leB]
theorem shr_byte (n : Int) (i : Nat) (hi : i < 8) : shr .u64 (IntKind.u64.wrap n) (8 * (i : Int)) % 256 = n / 256 ^ i % 256 := by
  unfold shr
  rw [IntKind.wrap_u64, Nat.min_eq_left (by show (8 * (i : Int)).toNat ≤ 64; omega)]
  match i, hi with
  | 0, _ => show n % 18446744073709551616 / 1 % 256 = n / 1 % 256; omega
  | 1, _ => show n % _ / 256 % 256 = n / 256 % 256; omega
  | 2, _ => show n % _ / 65536 % 256 = n / 65536 % 256; omega
  | 3, _ => show n % _ / 16777216 % 256 = n / 16777216 % 256; omega
  | 4, _ => show n % _ / 4294967296 % 256 = n / 4294967296 % 256; omega
  | 5, _ => show n % _ / 1099511627776 % 256 = n / 1099511627776 % 256; omega
  | 6, _ => show n % _ / 281474976710656 % 256 = n / 281474976710656 % 256; omega
  | 7, _ => show n % _ / 72057594037927936 % 256 = n / 72057594037927936 % 256; omega

theorem bytesOf_l0 (n : Int) (size : Nat) (hs : size ≤ 8) : ∀ (d k i : Nat), i + d = size → d < k →
    impl_bytesOf.l0 k n (leB n i ++ List.replicate d 0) size i = some (strOfNums (leB n size)) := by
  intro d
  induction d with
  | zero =>
    intro k i hi hk
    obtain ⟨k, rfl⟩ : ∃ m, k = m + 1 := ⟨k - 1, by omega⟩
    simp only [impl_bytesOf.l0]
    obtain rfl : i = size := by omega
    rw [if_neg (by omega)]; simp
  | succ d ih =>
    intro k i hi hk
    obtain ⟨k, rfl⟩ : ∃ m, k = m + 1 := ⟨k - 1, by omega⟩
    simp only [impl_bytesOf.l0]
    have e1 : wrap64 (8 * (i : Int)) = 8 * (i : Int) := wrap64_id (by omega) (by omega)
    have e2 : wrap64 ((i : Int) + 1) = ((i + 1 : Nat) : Int) := wrap64_id (by omega) (by omega)
    rw [e1, e2, if_pos (by omega), if_pos (by omega), if_pos (by omega), if_pos (by simp [leB_length]; omega), shr_byte n i (by omega)]
    have e3 : (leB n i ++ List.replicate (d + 1) 0).set (i : Int).toNat (n / 256 ^ i % 256) = leB n (i + 1) ++ List.replicate d 0 := by
      rw [leB_succ, List.replicate_succ]
      have : (i : Int).toNat = (leB n i).length := by rw [leB_length]; omega
      rw [this, List.set_append_right _ _ (Nat.le_refl _)]
      simp
    rw [e3]
    exact ih k (i + 1) (by omega) (by omega)
theorem bytesOf_f (n : Int) (size : Nat) (hs : size ≤ 8) (k : Nat) (hk : size < k) : impl_bytesOf.f k n size = some (strOfNums (leB n size)) := by
  unfold impl_bytesOf.f
  rw [if_pos (by omega), if_pos (by omega)]
  simp only [Option.bind_some]
  have := bytesOf_l0 n size hs size k 0 (by omega) hk
  rw [← this]; simp [leB]
end Go.Proofs.YteocobbddngllaaDoor.Lem
