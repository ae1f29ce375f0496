/- Words that were packed are unpacked; packed, they are not much longer: the pure statement. -/
import Derived.Test.YteocobbddngllaaDoorLemC
import Derived.Test.YteocobbddngllaaDoorStubTrim
import Derived.Test.YteocobbddngllaaDoorPx36
import Derived.Test.YteocobbddngllaaDoorPx37
namespace Go.Proofs.YteocobbddngllaaDoor.Pure
set_option linter.unusedVariables false
open Go Go.RowKit Go.Proofs.YteocobbddngllaaDoor Go.Proofs.YteocobbddngllaaDoor.P Go.Proofs.YteocobbddngllaaDoor.Lem Go.Proofs.YteocobbddngllaaDoorW.PrintWords Go.Proofs.YteocobbddngllaaDoorW.PrintLast
theorem trim_zero : ∀ (n : Nat) (s : ByteArray), (trimN n s).size = 0 → s.data.toList = zeros s.size := by
  intro n
  induction n with
  | zero =>
    intro s h
    have h0 : s.size = 0 := h
    rw [h0]
    exact List.eq_nil_of_length_eq_zero (by rw [data_length]; exact h0)
  | succ n ih =>
    intro s h
    unfold trimN at h
    by_cases he : endsZero s = true
    · rw [if_pos he] at h
      have h1 := ih _ h
      have h8 := endsZero_size he
      have hz : (s.extract 0 (s.size - 8)).size = s.size - 8 := by rw [ByteArray.size_extract]; omega
      rw [hz] at h1
      unfold endsZero Lib.hasSuffix at he
      obtain ⟨pre, hpre⟩ := List.isSuffixOf_iff_suffix.1 he
      have hl := congrArg List.length hpre
      have h08 : zero8.data.toList = zeros 8 := rfl
      rw [h08] at hpre
      have e2 : (s.extract 0 (s.size - 8)).data.toList = pre := by
        rw [ByteArray.data_extract, Array.toList_extract, List.extract_eq_take_drop, List.drop_zero, Nat.sub_zero, ← hpre]
        have : pre.length = s.size - 8 := by
          have := congrArg List.length hpre
          rw [List.length_append, zeros_length, data_length] at this; omega
        rw [← this, List.take_left]
      rw [e2] at h1
      rw [← hpre, h1, zeros_app]
      congr 1; omega
    · rw [if_neg he] at h
      rw [h]
      exact List.eq_nil_of_length_eq_zero (by rw [data_length]; exact h)
theorem FnPack : laws_FnPack.Pure := by
  intro l0 _ _ hw
  obtain ⟨k, hk⟩ : ∃ k : Nat, 100000000 ≤ k := ⟨_, Nat.le_refl _⟩
  refine ⟨k + 1, ?_⟩
  unfold laws_FnPack.f
  by_cases h : (l0.length : Int) > 1048576
  · rw [if_pos h]
  · rw [if_neg h]
    obtain ⟨s, e, hs⟩ := drawPack_f (k + 1) l0 (by omega) hw
    rw [e, Option.bind_some, implPack_f, Option.bind_some, specPackW_f s (k + 1) (by omega), Option.bind_some, if_pos rfl]
    have out : laws_FnPack.j0 (k + 1) s (packW s) true = some true := by
      simp only [laws_FnPack.j0]
      rw [if_pos trivial, specPackW_f s k (by omega), Option.bind_some]; simp
    by_cases h8 : (s.size : Int) % 8 = 0
    · rw [if_pos h8]
      by_cases hb : (s.size : Int) > 1600
      · rw [decide_eq_true hb]; exact out
      · rw [decide_eq_false hb]
        clear out
        have hW : IsW s := ⟨h8, by omega⟩
        obtain ⟨s1, s2⟩ := isW_len hW
        have hu := unp_back s hW
        have hl := packW_size s
        have pa : packW s = B (pk s.data.toList) := by unfold packW; rw [if_pos hW, packV_pk]
        have hpl : (packW s).size ≤ s.size + 2 * (s.size / 8) := by
          have := pk_len _ s.data.toList (Nat.le_refl _) s1
          rw [pa, B_size]; rw [data_length] at this; exact this
        have hzero : (trimN s.size s).size = 0 → (packW s).size ≤ 2 := by
          intro ht
          have hd := trim_zero _ s ht
          rw [pa, B_size, hd]
          by_cases h0 : s.size = 0
          · rw [h0]; exact Nat.zero_le _
          · obtain ⟨n, hn⟩ : ∃ n, s.size = 8 * (n + 1) := ⟨s.size / 8 - 1, by omega⟩
            rw [hn, pk_zeros n (by omega)]; exact Nat.le_refl _
        have htf : impl_Trim.f s = some (trimN s.size s) := by
          unfold impl_Trim.f impl_trimmed.f
          rw [isWords_f, Option.bind_some, if_pos (by simpa using hW), if_pos (by omega), Option.bind_some]
        clear pa
        simp only [laws_FnPack.j0]
        generalize trimN s.size s = tr at *
        generalize packW s = p at *
        rw [if_neg (by decide), implUnpack_f p k (by omega), Option.bind_some, htf, Option.bind_some, hu, if_pos rfl, if_pos rfl]
        rw [wrap64_id (n := (s.size : Int) / 8) (by omega) (by omega), wrap64_id (n := 2 * ((s.size : Int) / 8)) (by omega) (by omega), wrap64_id (by omega) (by omega), if_pos (by omega)]
        by_cases ht : tr.toList = []
        · rw [if_pos ht]
          rw [ByteArray.toList_eq] at ht
          have hts : tr.size = 0 := by rw [← data_length, ht]; rfl
          have := hzero hts
          rw [decide_eq_true (by omega)]
        · rw [if_neg ht]
    · rw [if_neg h8]; exact out
end Go.Proofs.YteocobbddngllaaDoor.Pure
