/- Put and Get together: what was put is got; put back it is as it was; two places that do not meet. -/
import Derived.Test.YtfeodfgjpjddhaaLemPut2
namespace Go.Proofs.Ytfeodfgjpjddhaa.Lem
set_option linter.unusedVariables false
open Go Go.RowKit Go.Proofs.Ytfeodfgjpjddhaa.P Go.Proofs.YtfeodfgjpjddhaaW.PrintWords Go.Proofs.YtfeodfgjpjddhaaW.PrintLast Go.Proofs.YtfeodfgjpjddhaaW.PrintMore
theorem wrap_digit (v : Int) (j : Nat) (hj : j < 8) : wrap64 v / 256 ^ j % 256 = v / 256 ^ j % 256 := by
  match j, hj with
  | 0, _ => show wrap64 v / 1 % 256 = v / 1 % 256; unfold wrap64; omega
  | 1, _ => show wrap64 v / 256 % 256 = v / 256 % 256; unfold wrap64; omega
  | 2, _ => show wrap64 v / 65536 % 256 = v / 65536 % 256; unfold wrap64; omega
  | 3, _ => show wrap64 v / 16777216 % 256 = v / 16777216 % 256; unfold wrap64; omega
  | 4, _ => show wrap64 v / 4294967296 % 256 = v / 4294967296 % 256; unfold wrap64; omega
  | 5, _ => show wrap64 v / 1099511627776 % 256 = v / 1099511627776 % 256; unfold wrap64; omega
  | 6, _ => show wrap64 v / 281474976710656 % 256 = v / 281474976710656 % 256; unfold wrap64; omega
  | 7, _ => show wrap64 v / 72057594037927936 % 256 = v / 72057594037927936 % 256; unfold wrap64; omega
/-- The conditions of a Put. -/
structure CanPut (s : ByteArray) (a n m : Int) : Prop where
  w : IsW s
  z : IsS n
  lo : 0 ≤ a
  al : a % n = 0
  hi : a + n ≤ s.size
  fit : FitsB m n
def putX (s : ByteArray) (a n m : Int) : ByteArray := splice s (strOfNums (leB m n.toNat)) a.toNat
theorem putV_yes {s : ByteArray} {a n m : Int} (h : CanPut s a n m) : putV s a n m = (putX s a n m, true) := by
  unfold putV
  rw [if_pos h.w, if_pos ⟨h.z, h.lo, h.al, h.hi, h.fit⟩]
  unfold putX splice
  rw [strOfNums_size, leB_length]
theorem putV_can {s : ByteArray} {a n m : Int} (h : (putV s a n m).2 = true) : CanPut s a n m := by
  unfold putV at h
  by_cases h1 : IsW s
  · rw [if_pos h1] at h
    by_cases h2 : IsS n ∧ 0 ≤ a ∧ a % n = 0 ∧ a + n ≤ s.size ∧ FitsB m n
    · exact ⟨h1, h2.1, h2.2.1, h2.2.2.1, h2.2.2.2.1, h2.2.2.2.2⟩
    · rw [if_neg h2] at h; cases h
  · rw [if_neg h1] at h; cases h
variable {s : ByteArray} {a n m : Int}
theorem putX_size (h : CanPut s a n m) : (putX s a n m).size = s.size := by
  have hp := isS_pos h.z; have h0 := h.lo; have h1 := h.hi
  unfold putX
  exact splice_size _ _ _ (by rw [strOfNums_size, leB_length]; omega)
theorem putX_bt (h : CanPut s a n m) (i : Nat) (hi : i < s.size) : bt (putX s a n m) (i : Int) = if a ≤ (i : Int) ∧ (i : Int) < a + n then m / 256 ^ ((i : Int) - a).toNat % 256 else bt s (i : Int) := by
  have hp := isS_pos h.z; have h0 := h.lo; have h1 := h.hi
  unfold putX
  rw [splice_bt _ _ _ _ (by rw [strOfNums_size, leB_length]; omega) hi, strOfNums_size, leB_length]
  by_cases hc : a ≤ (i : Int) ∧ (i : Int) < a + n
  · have e : i - a.toNat = ((i : Int) - a).toNat := by omega
    rw [if_pos (by omega), if_pos hc, bt_strOf _ _ (leB_range m _), leB_get m _ _ (by omega), e]
  · rw [if_neg (by omega), if_neg hc]
theorem putX_w (h : CanPut s a n m) : IsW (putX s a n m) := by unfold IsW; rw [putX_size h]; exact h.w
theorem getV_at {t : ByteArray} (hw : IsW t) (hz : IsS n) (h0 : 0 ≤ a) (hA : a ≤ 1600) (hal : a % n = 0) : getV t a n = wrap64 (acc t a n.toNat 0) := by
  unfold getV; rw [if_pos ⟨hw, hz, h0, hA, hal⟩]
theorem fits_wrap (hz : IsS n) (hf : FitsB m n) (hm : -9223372036854775808 ≤ m ∧ m < 9223372036854775808) : wrap64 (m % 256 ^ n.toNat) = m := by
  rcases hz with rfl | rfl | rfl | rfl
  · have : 0 ≤ m ∧ m < 256 := by rcases hf with h | h; · omega
                                 · exact h
    show wrap64 (m % 256) = m; unfold wrap64; omega
  · have : 0 ≤ m ∧ m < 65536 := by rcases hf with h | h; · omega
                                   · exact h
    show wrap64 (m % 65536) = m; unfold wrap64; omega
  · have : 0 ≤ m ∧ m < 4294967296 := by rcases hf with h | h; · omega
                                        · exact h
    show wrap64 (m % 4294967296) = m; unfold wrap64; omega
  · show wrap64 (m % 18446744073709551616) = m; unfold wrap64; omega
theorem get_put (h : CanPut s a n m) (hm : -9223372036854775808 ≤ m ∧ m < 9223372036854775808) : getV (putX s a n m) a n = m := by
  have hp := isS_pos h.z; have h0 := h.lo; have h1 := h.hi; have hw : (s.size : Int) ≤ 1600 := h.w.2
  rw [getV_at (putX_w h) h.z h.lo (by omega) h.al, acc_num _ a m n.toNat, fits_wrap h.z h.fit hm]
  intro j hj
  have e : a + (j : Int) = ((a.toNat + j : Nat) : Int) := by omega
  rw [e, putX_bt h _ (by omega), if_pos (by omega)]
  congr 3; omega
theorem getV_fits (hw : IsW s) (hz : IsS n) (h0 : 0 ≤ a) (hA : a ≤ 1600) (hal : a % n = 0) : FitsB (getV s a n) n := by
  rw [getV_at hw hz h0 hA hal]
  have hr := acc_range s a n.toNat
  rcases hz with rfl | rfl | rfl | rfl
  · right
    have h1 : acc s a (1 : Int).toNat 0 < 256 := hr.2
    rw [wrap64_id (by omega) (by omega)]; exact hr
  · right
    have h1 : acc s a (2 : Int).toNat 0 < 65536 := hr.2
    rw [wrap64_id (by omega) (by omega)]; exact hr
  · right
    have h1 : acc s a (4 : Int).toNat 0 < 4294967296 := hr.2
    rw [wrap64_id (by omega) (by omega)]; exact hr
  · left; rfl
theorem getV_digit (hw : IsW s) (hz : IsS n) (h0 : 0 ≤ a) (hA : a ≤ 1600) (hal : a % n = 0) (j : Nat) (hj : j < n.toNat) : getV s a n / 256 ^ j % 256 = bt s (a + j) := by
  have hp := isS_pos hz
  rw [getV_at hw hz h0 hA hal, wrap_digit _ _ (by omega), acc_digit _ _ _ _ hj]
theorem canBack (h : CanPut s a n m) : CanPut (putX s a n m) a n (getV s a n) := by
  have hp := isS_pos h.z; have h0 := h.lo; have h1 := h.hi; have hw : (s.size : Int) ≤ 1600 := h.w.2
  exact ⟨putX_w h, h.z, h.lo, h.al, by rw [putX_size h]; exact h.hi, getV_fits h.w h.z h.lo (by omega) h.al⟩
theorem put_back (h : CanPut s a n m) : putX (putX s a n m) a n (getV s a n) = s := by
  have hp := isS_pos h.z; have h0 := h.lo; have h1 := h.hi; have hw : (s.size : Int) ≤ 1600 := h.w.2
  have hb := canBack h
  apply bt_ext
  · rw [putX_size hb, putX_size h]
  · intro i hi
    rw [putX_size hb, putX_size h] at hi
    rw [putX_bt hb i (by rw [putX_size h]; exact hi)]
    by_cases hc : a ≤ (i : Int) ∧ (i : Int) < a + n
    · rw [if_pos hc, getV_digit h.w h.z h.lo (by omega) h.al _ (by omega)]
      congr 1; omega
    · rw [if_neg hc, putX_bt h i hi, if_neg hc]
end Go.Proofs.Ytfeodfgjpjddhaa.Lem
