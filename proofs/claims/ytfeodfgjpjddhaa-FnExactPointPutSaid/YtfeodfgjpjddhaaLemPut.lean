/- What the two functions that write a number into bytes answer: its bytes, the lowest first. -/
import Derived.Test.YtfeodfgjpjddhaaLemGet2
import Derived.KernelRfl
import Derived.Test.YtfeodfgjpjddhaaPx18
import Derived.Test.YtfeodfgjpjddhaaPx19
import Derived.Test.YtfeodfgjpjddhaaPx20
import Derived.Test.YtfeodfgjpjddhaaPx21
import Derived.Test.YtfeodfgjpjddhaaPx22
import Derived.Test.YtfeodfgjpjddhaaPx23
import Derived.Test.YtfeodfgjpjddhaaPx6
namespace Go.Proofs.Ytfeodfgjpjddhaa.Lem
set_option linter.unusedVariables false
open Go Go.RowKit Go.Proofs.Ytfeodfgjpjddhaa.P Go.Proofs.YtfeodfgjpjddhaaW.PrintWords Go.Proofs.YtfeodfgjpjddhaaW.PrintLast Go.Proofs.YtfeodfgjpjddhaaW.PrintMore

/-- The bytes of a number, the lowest first. -/
def leB (n : Int) (d : Nat) : List Int := (List.range d).map fun i => n / 256 ^ i % 256
theorem leB_succ (n : Int) (d : Nat) : leB n (d + 1) = leB n d ++ [n / 256 ^ d % 256] := by unfold leB; rw [List.range_succ, List.map_append]; rfl
theorem leB_length (n : Int) (d : Nat) : (leB n d).length = d := by simp [leB]
theorem l1Bytes_l0 (n : Int) (size : Nat) (hs : size ≤ 1000000) : ∀ (d k i : Nat), i + d = size → d < k →
    spec_l1Bytes.l0 k (n / 256 ^ i) size (leB n i) i = some (strOfNums (leB n size)) := by
  intro d
  induction d with
  | zero =>
    intro k i hi hk
    obtain ⟨k, rfl⟩ : ∃ m, k = m + 1 := ⟨k - 1, by omega⟩
    simp only [spec_l1Bytes.l0]
    obtain rfl : i = size := by omega
    rw [if_neg (by omega)]
  | succ d ih =>
    intro k i hi hk
    obtain ⟨k, rfl⟩ : ∃ m, k = m + 1 := ⟨k - 1, by omega⟩
    simp only [spec_l1Bytes.l0]
    rw [if_pos (by omega), if_pos (by rw [leB_length]; omega), ← leB_succ, wrap64_id (by omega) (by omega)]
    have e : n / 256 ^ i / 256 = n / 256 ^ (i + 1) := by rw [Int.pow_succ, Int.ediv_ediv_of_nonneg]; exact Int.le_of_lt (Int.pow_pos (by decide))
    rw [e]
    have := ih k (i + 1) (by omega) (by omega)
    rw [← this]; rfl
theorem l1Bytes_f (n : Int) (size : Nat) (hs : size ≤ 1000000) (k : Nat) (hk : size < k) : spec_l1Bytes.f k n size = some (strOfNums (leB n size)) := by
  unfold spec_l1Bytes.f
  have := l1Bytes_l0 n size hs size k 0 (by omega) hk
  rw [← this]; simp [leB]

theorem shr_byte (n : Int) (i : Nat) (hi : i < 8) : shr .u64 (IntKind.u64.wrap n) (8 * (i : Int)) % 256 = n / 256 ^ i % 256 := by
  unfold shr
  rw [IntKind.wrap_u64, Nat.min_eq_left (by show (8 * (i : Int)).toNat ≤ 64; omega)]
  match i, hi with
  | 0, _ => show n % 18446744073709551616 / 1 % 256 = n / 1 % 256; omega
  | 1, _ => show n % _ / 256 % 256 = n / 256 % 256; omega
  | 2, _ => show n % _ / 65536 % 256 = n / 65536 % 256; omega
  | 3, _ => show n % _ / 16777216 % 256 = n / 16777216 % 256; omega
  | 4, _ => show n % _ / 4294967296 % 256 = n / 4294967296 % 256; omega
  | 5, _ => show n % _ / 1099511627776 % 256 = n / 1099511627776 % 256; omega
  | 6, _ => show n % _ / 281474976710656 % 256 = n / 281474976710656 % 256; omega
  | 7, _ => show n % _ / 72057594037927936 % 256 = n / 72057594037927936 % 256; omega

theorem bytesOf_l0 (n : Int) (size : Nat) (hs : size ≤ 8) : ∀ (d k i : Nat), i + d = size → d < k →
    impl_bytesOf.l0 k n (leB n i ++ List.replicate d 0) size i = some (strOfNums (leB n size)) := by
  intro d
  induction d with
  | zero =>
    intro k i hi hk
    obtain ⟨k, rfl⟩ : ∃ m, k = m + 1 := ⟨k - 1, by omega⟩
    simp only [impl_bytesOf.l0]
    obtain rfl : i = size := by omega
    rw [if_neg (by omega)]; simp
  | succ d ih =>
    intro k i hi hk
    obtain ⟨k, rfl⟩ : ∃ m, k = m + 1 := ⟨k - 1, by omega⟩
    simp only [impl_bytesOf.l0]
    have e1 : wrap64 (8 * (i : Int)) = 8 * (i : Int) := wrap64_id (by omega) (by omega)
    have e2 : wrap64 ((i : Int) + 1) = ((i + 1 : Nat) : Int) := wrap64_id (by omega) (by omega)
    rw [e1, e2, if_pos (by omega), if_pos (by omega), if_pos (by omega), if_pos (by simp [leB_length]; omega), shr_byte n i (by omega)]
    have e3 : (leB n i ++ List.replicate (d + 1) 0).set (i : Int).toNat (n / 256 ^ i % 256) = leB n (i + 1) ++ List.replicate d 0 := by
      rw [leB_succ, List.replicate_succ]
      have : (i : Int).toNat = (leB n i).length := by rw [leB_length]; omega
      rw [this, List.set_append_right _ _ (Nat.le_refl _)]
      simp
    rw [e3]
    exact ih k (i + 1) (by omega) (by omega)
theorem bytesOf_f (n : Int) (size : Nat) (hs : size ≤ 8) (k : Nat) (hk : size < k) : impl_bytesOf.f k n size = some (strOfNums (leB n size)) := by
  unfold impl_bytesOf.f
  rw [if_pos (by omega), if_pos (by omega)]
  simp only [Option.bind_some]
  have := bytesOf_l0 n size hs size k 0 (by omega) hk
  rw [← this]; simp [leB]

/-- A number fits into so many bytes. -/
def FitsB (m n : Int) : Prop := n = 8 ∨ (0 ≤ m ∧ m < 256 ^ n.toNat)
instance (m n : Int) : Decidable (FitsB m n) := inferInstanceAs (Decidable (_ ∨ _))
theorem w8 (c : Int) (h : c = 1 ∨ c = 2 ∨ c = 4) : 0 ≤ wrap64 (8 * c) := by unfold wrap64; omega
theorem l1Fits_f (m n : Int) (h : IsS n) : spec_l1Fits.f m n = some (decide (FitsB m n)) := by
  unfold spec_l1Fits.f
  rcases h with rfl | rfl | rfl | rfl
  · rw [if_neg (by decide), if_pos (w8 _ (by omega)), l1In_f]
    have e : wrap64 (shl .i64 1 (wrap64 (8 * 1)) - 1) = 255 := by kernel_rfl
    rw [e]; simp only [Option.bind_some]; refine congrArg some (decide_eq_decide.2 ?_)
    show _ ↔ (_ ∨ 0 ≤ m ∧ m < 256); omega
  · rw [if_neg (by decide), if_pos (w8 _ (by omega)), l1In_f]
    have e : wrap64 (shl .i64 1 (wrap64 (8 * 2)) - 1) = 65535 := by kernel_rfl
    rw [e]; simp only [Option.bind_some]; refine congrArg some (decide_eq_decide.2 ?_)
    show _ ↔ (_ ∨ 0 ≤ m ∧ m < 65536); omega
  · rw [if_neg (by decide), if_pos (w8 _ (by omega)), l1In_f]
    have e : wrap64 (shl .i64 1 (wrap64 (8 * 4)) - 1) = 4294967295 := by kernel_rfl
    rw [e]; simp only [Option.bind_some]; refine congrArg some (decide_eq_decide.2 ?_)
    show _ ↔ (_ ∨ 0 ≤ m ∧ m < 4294967296); omega
  · rw [if_pos rfl]; simp [FitsB]
theorem fitsBits_f (m n : Int) (h : IsS n) : impl_fitsBits.f m (8 * n) = some (decide (FitsB m n)) := by
  unfold impl_fitsBits.f
  rcases h with rfl | rfl | rfl | rfl
  · rw [if_neg (by decide), if_pos (by decide), in_f]
    have e : wrap64 (shl .i64 1 (8 * 1) - 1) = 255 := by kernel_rfl
    rw [e]; simp only [Option.bind_some]; refine congrArg some (decide_eq_decide.2 ?_)
    show _ ↔ (_ ∨ 0 ≤ m ∧ m < 256); omega
  · rw [if_neg (by decide), if_pos (by decide), in_f]
    have e : wrap64 (shl .i64 1 (8 * 2) - 1) = 65535 := by kernel_rfl
    rw [e]; simp only [Option.bind_some]; refine congrArg some (decide_eq_decide.2 ?_)
    show _ ↔ (_ ∨ 0 ≤ m ∧ m < 65536); omega
  · rw [if_neg (by decide), if_pos (by decide), in_f]
    have e : wrap64 (shl .i64 1 (8 * 4) - 1) = 4294967295 := by kernel_rfl
    rw [e]; simp only [Option.bind_some]; refine congrArg some (decide_eq_decide.2 ?_)
    show _ ↔ (_ ∨ 0 ≤ m ∧ m < 4294967296); omega
  · rw [if_pos (by decide)]; simp [FitsB]
theorem stored_f (s b : ByteArray) (a : Int) (h0 : 0 ≤ a) (h1 : a + b.size ≤ s.size) (hs : s.size ≤ 1000000) :
    impl_stored.f s a b = some (s.extract 0 a.toNat ++ b ++ s.extract (a.toNat + b.size) s.size) := by
  unfold impl_stored.f
  rw [wrap64_id (n := a + (b.size : Int)) (by omega) (by omega)]
  have e : (a + (b.size : Int)).toNat = a.toNat + b.size := by omega
  rw [if_pos h0, if_pos (by omega), if_pos (by simp [ByteArray.size_extract]; omega), if_pos (by omega), if_pos h1, e, if_pos (by simp [ByteArray.size_append, ByteArray.size_extract]; omega)]

/-- Words with a number put into them, and whether it was. -/
def putV (s : ByteArray) (a n m : Int) : ByteArray × Bool :=
  if IsW s then if IsS n ∧ 0 ≤ a ∧ a % n = 0 ∧ a + n ≤ s.size ∧ FitsB m n then (s.extract 0 a.toNat ++ strOfNums (leB m n.toNat) ++ s.extract (a.toNat + n.toNat) s.size, true) else (s, false) else (⟨#[]⟩, false)
theorem specPut_f (s : ByteArray) (a n m : Int) (hn : n < 9223372036854775808) (hn' : -9223372036854775808 ≤ n) (k : Nat) (hk : 8 < k) : spec_Put.f k s a n m = some (putV s a n m) := by
  unfold spec_Put.f putV
  rw [l1Ok_f]
  simp only [Option.bind_some]
  by_cases h1 : IsW s
  · have hz : (s.size : Int) ≤ 1600 := h1.2
    rw [if_pos (by simpa using h1), if_pos h1, l1Size_f]
    simp only [Option.bind_some]
    by_cases h2 : IsS n
    · have hp := isS_pos h2
      rw [if_pos (by simpa using h2), wrap64_id (n := (s.size : Int) - n) (by omega) (by omega)]
      by_cases h3 : a < 0
      · rw [if_pos h3, if_neg (by omega)]
      · rw [if_neg h3]
        by_cases h4 : a > (s.size : Int) - n
        · rw [if_pos h4, if_neg (by omega)]
        · rw [if_neg h4, if_neg (by omega), Int.tmod_eq_emod_of_nonneg (by omega), l1Fits_f m n h2]
          by_cases h5 : a % n = 0
          · rw [if_pos h5]
            simp only [Option.bind_some]
            by_cases h6 : FitsB m n
            · rw [if_pos (by simpa using h6), if_pos (by omega), if_pos (by omega)]
              have e : (n.toNat : Int) = n := by omega
              have hb := l1Bytes_f m n.toNat (by omega) k (by omega)
              rw [e] at hb
              rw [hb, if_pos ⟨h2, by omega, h5, by omega, h6⟩]
              simp only [Option.bind_some]
              rw [wrap64_id (n := a + n) (by omega) (by omega)]
              have e2 : (a + n).toNat = a.toNat + n.toNat := by omega
              rw [e2, if_pos (by simp [ByteArray.size_extract, strOfNums_size, leB_length]; omega), if_pos (by omega), if_pos (by omega), if_pos (by simp [ByteArray.size_append, ByteArray.size_extract, strOfNums_size, leB_length]; omega)]
            · rw [if_neg (by simpa using h6), if_neg (fun h => h6 h.2.2.2.2)]
          · rw [if_neg h5, if_neg (fun h => h5 h.2.2.1)]
    · rw [if_neg (by simpa using h2), if_neg (fun h => h2 h.1)]
  · rw [if_neg (by simpa using h1), if_neg h1]
theorem implPut_f (s : ByteArray) (a n m : Int) (k : Nat) (hk : 9 < k) : impl_Put.f k s a n m = some (putV s a n m) := by
  obtain ⟨k, rfl⟩ : ∃ j, k = j + 1 := ⟨k - 1, by omega⟩
  unfold impl_Put.f putV
  rw [isWords_f, isPlace_f]
  simp only [Option.bind_some]
  by_cases h1 : IsW s
  · have hz : (s.size : Int) ≤ 1600 := h1.2
    have hz8 : (s.size : Int) % 8 = 0 := h1.1
    rw [if_pos (by simpa using h1), if_pos h1]
    by_cases h2 : IsS n ∧ 0 ≤ a ∧ a ≤ 1600 ∧ a % n = 0
    · have hp := isS_pos h2.1
      rw [if_pos (by simpa using h2), wrap64_id (n := a + n) (by omega) (by omega), wrap64_id (n := 8 * n) (by omega) (by omega), fitsBits_f m n h2.1]
      simp only [Option.bind_some]
      by_cases h3 : a + n > (s.size : Int)
      · rw [if_pos h3]; simp only [impl_Put.j0]; rw [if_pos trivial, if_neg (by omega)]
      · rw [if_neg h3]
        simp only [impl_Put.j0]
        by_cases h6 : FitsB m n
        · rw [if_neg (by simpa using h6), if_pos ⟨h2.1, h2.2.1, h2.2.2.2, by omega, h6⟩]
          have e : (n.toNat : Int) = n := by omega
          have hb := bytesOf_f m n.toNat (by omega) k (by omega)
          rw [e] at hb
          rw [hb]
          simp only [Option.bind_some]
          have hl : (strOfNums (leB m n.toNat)).size = n.toNat := by rw [strOfNums_size, leB_length]
          rw [stored_f s _ a h2.2.1 (by rw [hl]; omega) (by omega), hl]
          rfl
        · rw [if_pos (by simpa using h6), if_neg (fun h => h6 h.2.2.2.2)]
    · rw [if_neg (by simpa using h2)]
      simp only [impl_Put.j0]
      rw [if_pos trivial, if_neg (fun h => h2 ⟨h.1, h.2.1, by have := isS_pos h.1; omega, h.2.2.1⟩)]
  · rw [if_neg (by simpa using h1), if_neg h1]
end Go.Proofs.Ytfeodfgjpjddhaa.Lem
