/- A frame is as long as its head and its segments: the pure statement. -/
import Derived.Test.YteocobbddngllaaLemFrameSpec
import Derived.Test.YteocobbddngllaaStubFramePut
import Derived.Test.YteocobbddngllaaLemSegs
import Derived.Test.YteocobbddngllaaLemGet2
import Derived.Test.YteocobbddngllaaLemPut2
import Derived.Test.YteocobbddngllaaPx21
namespace Go.Proofs.Yteocobbddngllaa.Pure
set_option linter.unusedVariables false
open Go Go.RowKit Go.Proofs.Yteocobbddngllaa Go.Proofs.Yteocobbddngllaa.P Go.Proofs.Yteocobbddngllaa.Lem Go.Proofs.YteocobbddngllaaW.PrintWords Go.Proofs.YteocobbddngllaaW.PrintLast
theorem implFramePut_f2 (l : List ByteArray) (hl : l.length ≤ 30) (hs : ∀ x ∈ l, x.size ≤ 2000) : impl_FramePut.f l = some (if frameOkV l = true then frameV l else ⟨#[]⟩) := by
  unfold impl_FramePut.f
  rw [if_pos ⟨by omega, fun x hx => by have := hs x hx; omega⟩]
theorem putSegs_pre (l : List ByteArray) : ∀ x, ∃ y, putSegs l x = x ++ y := by
  induction l with
  | nil => intro x; exact ⟨⟨#[]⟩, by show x = _; apply ByteArray.ext; rw [ByteArray.data_append]; simp⟩
  | cons s l ih =>
    intro x
    obtain ⟨y, hy⟩ := ih (x ++ s)
    exact ⟨s ++ y, by show putSegs l (x ++ s) = _; rw [hy, ByteArray.append_assoc]⟩
theorem putSizes_pre (l : List ByteArray) : ∀ x, ∃ y, putSizes l x = x ++ y := by
  induction l with
  | nil => intro x; exact ⟨⟨#[]⟩, by show x = _; apply ByteArray.ext; rw [ByteArray.data_append]; simp⟩
  | cons s l ih =>
    intro x
    obtain ⟨y, hy⟩ := ih (x ++ le4 ((s.size : Int) / 8))
    exact ⟨le4 ((s.size : Int) / 8) ++ y, by show putSizes l (x ++ _) = _; rw [hy, ByteArray.append_assoc]⟩
theorem pad8_pre (x : ByteArray) : ∃ y, pad8 x = x ++ y := by
  unfold pad8
  split
  · exact ⟨⟨#[]⟩, by apply ByteArray.ext; rw [ByteArray.data_append]; simp⟩
  · exact ⟨_, rfl⟩
theorem frameV_pre (l : List ByteArray) : ∃ y, frameV l = le4 ((l.length : Int) - 1) ++ y := by
  unfold frameV headV
  obtain ⟨a, ha⟩ := putSizes_pre l (le4 ((l.length : Int) - 1))
  rw [ha]
  obtain ⟨b, hb⟩ := pad8_pre (le4 ((l.length : Int) - 1) ++ a)
  rw [hb]
  obtain ⟨c, hc⟩ := putSegs_pre l (le4 ((l.length : Int) - 1) ++ a ++ b)
  rw [hc]
  exact ⟨a ++ (b ++ c), by rw [ByteArray.append_assoc, ByteArray.append_assoc]⟩
theorem frameV_size (l : List ByteArray) (h : frameOkV l = true) : ((frameV l).size : Int) = (4 * ((l.length : Int) + 1) + 7) / 8 * 8 + (sumSize l : Int) := by
  unfold frameV
  rw [putSegs_size]
  have hh := headV_size l
  unfold pad8
  split
  · omega
  · rw [ByteArray.size_append, le4_size]; omega
theorem frame_many (l : List ByteArray) (h : frameOkV l = true) : getV ((frameV l).extract 0 8) 0 4 = (l.length : Int) - 1 := by
  obtain ⟨⟨h1, h6⟩, _, _⟩ := frameOk_facts h
  have hz := frameV_size l h
  have h8 : 8 ≤ (frameV l).size := by omega
  have hs8 : ((frameV l).extract 0 8).size = 8 := by rw [ByteArray.size_extract]; omega
  unfold getV
  rw [if_pos ⟨by unfold IsW; rw [hs8]; decide, by unfold IsS; decide, by decide, by decide, by decide⟩]
  have ha : acc ((frameV l).extract 0 8) 0 4 0 = ((l.length : Int) - 1) % 256 ^ 4 := by
    refine acc_num _ _ _ 4 (fun j hj => ?_)
    rw [Int.zero_add, bt_extract _ _ _ _ h8, if_pos (by omega), Nat.zero_add]
    obtain ⟨y, hy⟩ := frameV_pre l
    rw [hy, bt_append, le4_size, if_pos hj]
    unfold le4
    rw [bt_strOf _ _ (leB_range _ _), leB_get _ _ _ hj]
  have e4 : (4 : Int).toNat = 4 := rfl
  rw [e4, ha, wrap64_id (by omega) (by omega)]
  have e : (256 : Int) ^ 4 = 4294967296 := by decide
  rw [e]; omega
theorem size_l0 (l : List ByteArray) (f : ByteArray) (hf : f = frameV l) (h : frameOkV l = true) : ∀ (d k i : Nat) (x : Int), i + d = l.length → d + 20 ≤ k → x + (sumSize (l.drop i) : Int) = sumSize l → 0 ≤ x →
    laws_FnFrameSize.l0 k l f x i = some true := by
  obtain ⟨⟨h1, h6⟩, _, h3⟩ := frameOk_facts h
  have hz := frameV_size l h
  intro d
  induction d with
  | zero =>
    intro k i x hi hk hx h0
    obtain ⟨k, rfl⟩ : ∃ m, k = m + 1 := ⟨k - 1, by omega⟩
    simp only [laws_FnFrameSize.l0]
    rw [List.drop_eq_nil_of_le (by omega)] at hx
    have hx2 : x = (sumSize l : Int) := by rw [← hx]; show x = x + ((0 : Nat) : Int); omega
    subst hf
    rw [if_neg (by omega), wrap64_id (n := (l.length : Int) + 1) (by omega) (by omega), wrap64_id (n := 4 * ((l.length : Int) + 1)) (by omega) (by omega), wrap64_id (n := 4 * ((l.length : Int) + 1) + 7) (by omega) (by omega), Int.tdiv_eq_ediv_of_nonneg (by omega),
      wrap64_id (n := (4 * ((l.length : Int) + 1) + 7) / 8) (by omega) (by omega), wrap64_id (n := (4 * ((l.length : Int) + 1) + 7) / 8 * 8) (by omega) (by omega), wrap64_id (by omega) (by omega), if_pos (by omega), if_pos (by omega), if_pos (by omega),
      implGet_f _ _ _ k (by omega), Option.bind_some, frame_many l h, wrap64_id (by omega) (by omega)]
    simp
  | succ d ih =>
    clear hz
    intro k i x hi hk hx h0
    obtain ⟨k, rfl⟩ : ∃ m, k = m + 1 := ⟨k - 1, by omega⟩
    simp only [laws_FnFrameSize.l0]
    have e : rdOf ByteArray.empty l (i : Int) = rs l i := rfl
    rw [drop_rs l i (by omega), sumSize_cons] at hx
    have e2 : wrap64 ((i : Int) + 1) = ((i + 1 : Nat) : Int) := by rw [wrap64_id (by omega) (by omega)]; omega
    rw [if_pos (by omega), if_pos (by omega), e, wrap64_id (n := x + ((rs l i).size : Int)) (by omega) (by omega), e2]
    exact ih k (i + 1) _ (by omega) (by omega) (by omega) (by omega)
theorem FnFrameSize : laws_FnFrameSize.Pure := by
  intro l0 _ _ hw
  obtain ⟨k, hk⟩ : ∃ k : Nat, 1100 ≤ k := ⟨_, Nat.le_refl _⟩
  refine ⟨k + 1, ?_⟩
  unfold laws_FnFrameSize.f
  by_cases h : (l0.length : Int) > 1048576
  · rw [if_pos h]
  · rw [if_neg h]
    obtain ⟨l, e, h1, h2⟩ := drawFramePut_f (k + 1) l0 (by omega) hw
    rw [e, Option.bind_some, implFramePut_f2 l h1 h2, Option.bind_some, specFramePut_f l (by omega) (fun x hx => by have := h2 x hx; omega) (k + 1) (by omega) (by omega), Option.bind_some, if_pos rfl]
    simp only [laws_FnFrameSize.j0]
    by_cases hok : frameOkV l = true
    · rw [if_pos hok]
      have hne : ¬ ((frameV l).toList == ([] : List UInt8)) = true := by
        have := frameV_size l hok
        intro hc
        have h3 : (frameV l).toList = [] := by simpa using hc
        rw [ByteArray.toList_eq] at h3
        have h4 := congrArg List.length h3
        rw [data_length] at h4
        have h5 : (frameV l).size = 0 := h4
        omega
      rw [if_neg hne]
      exact size_l0 l _ rfl hok l.length k 0 0 (by omega) (by omega) (by rw [List.drop_zero]; omega) (by omega)
    · rw [if_neg hok, if_pos (by rw [ByteArray.toList_eq]; rfl), specFramePut_f l (by omega) (fun x hx => by have := h2 x hx; omega) k (by omega) (by omega), Option.bind_some, if_neg hok]
      simp
end Go.Proofs.Yteocobbddngllaa.Pure
