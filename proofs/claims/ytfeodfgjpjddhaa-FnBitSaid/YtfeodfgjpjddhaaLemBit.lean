/- What BitGet answers, of the program and of the reference: one plain function. -/
import Derived.Test.YtfeodfgjpjddhaaLemGet2
import Derived.Test.YtfeodfgjpjddhaaPx10
import Derived.Test.YtfeodfgjpjddhaaPx13
import Derived.Test.YtfeodfgjpjddhaaPx29
import Derived.Test.YtfeodfgjpjddhaaPx30
namespace Go.Proofs.Ytfeodfgjpjddhaa.Lem
set_option linter.unusedVariables false
open Go Go.RowKit Go.Proofs.Ytfeodfgjpjddhaa.P Go.Proofs.YtfeodfgjpjddhaaW.PrintWords Go.Proofs.YtfeodfgjpjddhaaW.PrintLast Go.Proofs.YtfeodfgjpjddhaaW.PrintMore

/-- A bit of words. -/
def bitV (s : ByteArray) (a : Int) : Int := if IsW s ∧ 0 ≤ a ∧ a / 8 < (s.size : Int) then bt s (a / 8) / 2 ^ (a % 8).toNat % 2 else 0
theorem shr_and1 (x : Int) (j : Int) (h0 : 0 ≤ x) (h1 : x ≤ 255) (hj : 0 ≤ j) (hj8 : j < 8) : Go.bits .and .i64 (shr .i64 (wrap64 x) j) 1 = x / 2 ^ j.toNat % 2 := by
  have hw : wrap64 x = x := wrap64_id (by omega) (by omega)
  rw [hw]
  unfold shr
  rw [Nat.min_eq_left (by show j.toNat ≤ 64; omega)]
  have hp : (0 : Int) < 2 ^ j.toNat := Int.pow_pos (by decide)
  have hle : x / 2 ^ j.toNat ≤ x := Int.ediv_le_self _ h0
  have hnn : 0 ≤ x / 2 ^ j.toNat := Int.ediv_nonneg h0 (by omega)
  rw [and1_i64 _ hnn (by omega)]
theorem specBitGet_f (s : ByteArray) (a : Int) : spec_BitGet.f s a = some (bitV s a) := by
  unfold spec_BitGet.f bitV
  rw [l1Ok_f]
  simp only [Option.bind_some]
  by_cases h1 : IsW s
  · have hz : (s.size : Int) ≤ 1600 := h1.2
    rw [if_pos (by simpa using h1)]
    by_cases h2 : a < 0
    · rw [if_pos h2, if_neg (by omega)]
    · rw [if_neg h2, wrap64_id (n := 8 * (s.size : Int)) (by omega) (by omega)]
      by_cases h3 : a ≥ 8 * (s.size : Int)
      · rw [if_pos h3, if_neg (by omega)]
      · rw [if_neg h3, Int.tdiv_eq_ediv_of_nonneg (by omega), Int.tmod_eq_emod_of_nonneg (by omega), wrap64_id (n := a / 8) (by omega) (by omega)]
        have hb := bt_range s (a / 8)
        rw [if_pos (by omega), if_pos (by omega), if_pos (by omega), if_pos ⟨h1, by omega, by omega⟩, shr_and1 _ _ hb.1 hb.2 (by omega) (by omega)]
  · rw [if_neg (by simpa using h1), if_neg (fun h => h1 h.1)]
theorem implBitOf_f (s : ByteArray) (a : Int) (hs : s.size ≤ 1000000) (ha : a < 9223372036854775808) : impl_bitOf.f s a = some (if 0 ≤ a ∧ a / 8 < (s.size : Int) then bt s (a / 8) / 2 ^ (a % 8).toNat % 2 else 0) := by
  unfold impl_bitOf.f
  by_cases h2 : a < 0
  · rw [if_pos h2, if_neg (by omega)]
  · rw [if_neg h2, Int.tdiv_eq_ediv_of_nonneg (by omega), Int.tmod_eq_emod_of_nonneg (by omega), wrap64_id (n := a / 8) (by omega) (by omega)]
    by_cases h3 : a / 8 ≥ (s.size : Int)
    · rw [if_pos h3, if_neg (by omega)]
    · have hb := bt_range s (a / 8)
      rw [if_neg h3, if_pos (by omega), if_pos (by omega), if_pos (by omega), if_pos ⟨by omega, by omega⟩, shr_and1 _ _ hb.1 hb.2 (by omega) (by omega)]
theorem implBitGet_f (s : ByteArray) (a : Int) (ha : a < 9223372036854775808) : impl_BitGet.f s a = some (bitV s a) := by
  unfold impl_BitGet.f bitV
  rw [isWords_f]
  simp only [Option.bind_some]
  by_cases h1 : IsW s
  · have hz : (s.size : Int) ≤ 1600 := h1.2
    rw [if_pos (by simpa using h1), implBitOf_f s a (by omega) ha]
    simp only [Option.bind_some, h1, true_and]
  · rw [if_neg (by simpa using h1), if_neg (fun h => h1 h.1)]
end Go.Proofs.Ytfeodfgjpjddhaa.Lem
