/- What the two functions that read a number out of bytes answer: the number that the bytes are, the lowest first. -/
import Derived.Test.YteocobbddngllaaDoorLemA
import Derived.Test.YteocobbddngllaaDoorPx20
import Derived.Test.YteocobbddngllaaDoorPx27
namespace Go.Proofs.YteocobbddngllaaDoor.Lem
set_option linter.unusedVariables false
open Go Go.RowKit Go.Proofs.YteocobbddngllaaDoor.P Go.Proofs.YteocobbddngllaaDoorW.PrintWords Go.Proofs.YteocobbddngllaaDoorW.PrintLast Go.Proofs.YteocobbddngllaaDoorW.PrintMore

/-- The bytes from a place on, d of them, the last first, behind what is there. -/
def acc (s : ByteArray) (a : Int) : Nat → Int → Int
  | 0, x => x
  | d + 1, x => acc s a d (x * 256 + bt s (a + d))
theorem bt_out {s : ByteArray} {i : Int} (h0 : 0 ≤ i) (h : ¬ i < (s.size : Int)) : bt s i = 0 := by
  unfold bt; rw [dif_neg (by omega)]
theorem acc_congr (s : ByteArray) (a : Int) : ∀ (d : Nat) (x y : Int), wrap64 x = wrap64 y → wrap64 (acc s a d x) = wrap64 (acc s a d y)
  | 0, x, y, h => h
  | d + 1, x, y, h => acc_congr s a d _ _ (by have := bt_range s (a + d); unfold wrap64 at *; omega)
theorem acc_plus (s : ByteArray) (a : Int) : ∀ (d : Nat) (x : Int), acc s a d x = x * 256 ^ d + acc s a d 0
  | 0, x => by simp [acc]
  | d + 1, x => by
    have h1 := acc_plus s a d (x * 256 + bt s (a + d))
    have h2 := acc_plus s a d (0 * 256 + bt s (a + d))
    simp only [acc]
    rw [h1, h2, Int.pow_succ]
    simp only [Int.add_mul, Int.zero_mul, Int.zero_add]
    rw [Int.mul_assoc x 256, Int.mul_comm 256, Int.add_assoc]
theorem acc_range (s : ByteArray) (a : Int) : ∀ (d : Nat), 0 ≤ acc s a d 0 ∧ acc s a d 0 < 256 ^ d
  | 0 => by simp [acc]
  | d + 1 => by
    have h := acc_range s a d
    have hb := bt_range s (a + d)
    simp only [acc]
    rw [acc_plus s a d, Int.pow_succ]
    have hp : (0 : Int) < 256 ^ d := Int.pow_pos (by decide)
    generalize bt s (a + d) = b at *
    generalize (256 : Int) ^ d = p at *
    have h1 : (0 * 256 + b) * p ≤ 255 * p := Int.mul_le_mul_of_nonneg_right (by omega) (by omega)
    have h2 : 0 ≤ (0 * 256 + b) * p := Int.mul_nonneg (by omega) (by omega)
    omega

theorem l1Get_l0 (s : ByteArray) (a : Int) (ha : 0 ≤ a) (hA : a ≤ 1000000) : ∀ (d : Nat) (k : Nat) (x : Int), d < k → d ≤ 1000000 →
    spec_l1Get.l0 k s a (wrap64 x) ((d : Int) - 1) = some (wrap64 (acc s a d x)) := by
  intro d
  induction d with
  | zero =>
    intro k x hk _
    obtain ⟨k, rfl⟩ : ∃ m, k = m + 1 := ⟨k - 1, by omega⟩
    simp only [spec_l1Get.l0]
    rw [if_neg (by omega)]; rfl
  | succ d ih =>
    intro k x hk hd
    obtain ⟨k, rfl⟩ : ∃ m, k = m + 1 := ⟨k - 1, by omega⟩
    simp only [spec_l1Get.l0]
    have e1 : ((d + 1 : Nat) : Int) - 1 = (d : Int) := by omega
    have e2 : wrap64 ((d : Int) - 1) = (d : Int) - 1 := wrap64_id (by omega) (by omega)
    have e3 : wrap64 (a + (d : Int)) = a + d := wrap64_id (by omega) (by omega)
    have e4 : wrap64 (wrap64 x * 256) = wrap64 (x * 256) := by unfold wrap64; omega
    rw [e1, if_pos (by omega), e3, e2, e4]
    have hb := bt_range s (a + d)
    by_cases h : a + (d : Int) < (s.size : Int)
    · rw [if_pos h, if_pos (by omega), wrap64_id (n := bt s (a + d)) (by omega) (by omega), join_i64 x _ hb.1 hb.2]
      exact ih k _ (by omega) (by omega)
    · rw [if_neg h, join_i64 x 0 (by omega) (by omega), ih k _ (by omega) (by omega)]
      simp only [acc]
      rw [bt_out (by omega) h]
theorem l1Get_f (s : ByteArray) (a size : Int) (ha : 0 ≤ a) (hA : a ≤ 1000000) (h0 : 0 ≤ size) (h1 : size ≤ 1000000) (k : Nat) (hk : size < k) :
    spec_l1Get.f k s a size = some (wrap64 (acc s a size.toNat 0)) := by
  unfold spec_l1Get.f
  rw [wrap64_id (by omega) (by omega)]
  have := l1Get_l0 s a ha hA size.toNat k 0 (by omega) (by omega)
  rw [wrap64_id (by omega) (by omega)] at this
  rw [← this]; congr 1; omega
theorem fetch_l0 (s : ByteArray) (a : Int) (ha : 0 ≤ a) (hA : a ≤ 1000000) : ∀ (d : Nat) (k : Nat) (x : Int), d < k → d ≤ 1000000 →
    impl_fetch.l0 k s a (IntKind.u64.wrap x) ((d : Int) - 1) = some (wrap64 (acc s a d x)) := by
  intro d
  induction d with
  | zero =>
    intro k x hk _
    obtain ⟨k, rfl⟩ : ∃ m, k = m + 1 := ⟨k - 1, by omega⟩
    simp only [impl_fetch.l0]
    rw [if_neg (by omega), IntKind.wrap_u64]
    congr 1
    unfold wrap64; simp only [acc]; omega
  | succ d ih =>
    intro k x hk hd
    obtain ⟨k, rfl⟩ : ∃ m, k = m + 1 := ⟨k - 1, by omega⟩
    simp only [impl_fetch.l0]
    have e1 : ((d + 1 : Nat) : Int) - 1 = (d : Int) := by omega
    have e2 : wrap64 ((d : Int) - 1) = (d : Int) - 1 := wrap64_id (by omega) (by omega)
    have e3 : wrap64 (a + (d : Int)) = a + d := wrap64_id (by omega) (by omega)
    have e4 : IntKind.u64.wrap (IntKind.u64.wrap x * 256) = IntKind.u64.wrap (x * 256) := by simp only [IntKind.wrap_u64]; omega
    rw [e1, if_pos (by omega), e3, e2, e4]
    have hb := bt_range s (a + d)
    by_cases h : a + (d : Int) < (s.size : Int)
    · rw [if_pos h, if_pos (by omega), join_u64 x _ hb.1 hb.2]
      exact ih k _ (by omega) (by omega)
    · rw [if_neg h]
      have e5 : IntKind.u64.wrap (x * 256) = IntKind.u64.wrap (x * 256 + bt s (a + d)) := by rw [bt_out (by omega) h, Int.add_zero]
      rw [e5]
      exact ih k _ (by omega) (by omega)
theorem fetch_f (s : ByteArray) (a size : Int) (ha : 0 ≤ a) (hA : a ≤ 1000000) (h0 : 0 ≤ size) (h1 : size ≤ 1000000) (k : Nat) (hk : size < k) :
    impl_fetch.f k s a size = some (wrap64 (acc s a size.toNat 0)) := by
  unfold impl_fetch.f
  rw [wrap64_id (by omega) (by omega)]
  have := fetch_l0 s a ha hA size.toNat k 0 (by omega) (by omega)
  rw [u64_id (by omega) (by omega)] at this
  rw [← this]; congr 1; omega
end Go.Proofs.YteocobbddngllaaDoor.Lem
