/- Segments are read back from their frame, whatever stands behind: the pure statement. -/
import Derived.Test.YteocobbddngllaaDoorLemFrameAll
import Derived.Test.YteocobbddngllaaDoorLemSegs
import Derived.Test.YteocobbddngllaaDoorLemDrawFrame
import Derived.Test.YteocobbddngllaaDoorPx29
namespace Go.Proofs.YteocobbddngllaaDoor.Pure
set_option linter.unusedVariables false
open Go Go.RowKit Go.Proofs.YteocobbddngllaaDoor Go.Proofs.YteocobbddngllaaDoor.P Go.Proofs.YteocobbddngllaaDoor.Lem Go.Proofs.YteocobbddngllaaDoorW.PrintWords Go.Proofs.YteocobbddngllaaDoorW.PrintLast
theorem ne_nil {f : ByteArray} (h : 8 ≤ f.size) : ¬ f.toList = [] := by
  intro h3
  rw [ByteArray.toList_eq] at h3
  have h4 := congrArg List.length h3
  rw [data_length] at h4
  have h5 : f.size = 0 := h4
  omega
theorem nil_toList : (⟨#[]⟩ : ByteArray).toList = [] := by rw [ByteArray.toList_eq]
theorem frame_j2 (t : ByteArray) (ht : t.size ≤ 1000000) (k : Nat) (hk : 1000 ≤ k) : laws_FnFrame.j2 (k + 1) t = some true := by
  have e : t = B t.data.toList := (B_of t).symm
  have hl : t.data.toList.length = t.size := data_length t
  simp only [laws_FnFrame.j2]
  generalize t.data.toList = u at *
  subst e
  have hlen := frameG_len u
  have hback := fun y n h1 h2 => frame_back u y n h1 h2
  rw [implFrameGet_f u (by omega) k (by omega), Option.bind_some, specFrameGet_f u (by omega) k (by omega), Option.bind_some, if_pos rfl]
  generalize frameG u = q at *
  obtain ⟨y, n⟩ := q
  dsimp only at hlen ⊢
  rw [texts_f k y (by omega) (by omega), Option.bind_some, if_pos rfl]
  by_cases hn : n < 1
  · rw [if_pos hn]
  · obtain ⟨hok, hle, hf⟩ := hback y n rfl (by omega)
    obtain ⟨_, h8, hs⟩ := frameOk_facts hok
    rw [if_neg hn, implFrameW_f y (by omega) (fun x hx => by have := size_le_sum x hx; omega), Option.bind_some, if_pos (by omega), B_size, if_pos (by omega)]
    have hx : (B u).extract 0 n.toNat = frameW y := by
      rw [B_extract, List.drop_zero, ← hf]; unfold frameW; rw [if_pos hok]
    rw [hx]; simp
theorem FnFrame : laws_FnFrame.Pure := by
  intro l0 l1 _ _ hw _ _ hw1
  obtain ⟨k, hk⟩ : ∃ k : Nat, 2000 ≤ k := ⟨_, Nat.le_refl _⟩
  refine ⟨k + 1 + 1 + 1, ?_⟩
  unfold laws_FnFrame.f
  have hj : ∀ x, laws_FnFrame.j0 (k + 1 + 1 + 1) l0 l1 x = some true := by
    intro x
    simp only [laws_FnFrame.j0]
    cases x with
    | true => rfl
    | false =>
      rw [if_neg (by decide)]
      obtain ⟨a, ea, a1, a2⟩ := drawFramePut_f (k + 1 + 1) l0 (by omega) hw
      obtain ⟨t, et, ht⟩ := drawFrameGet_f (k + 1) l1 (by omega) hw1
      have a3 : ∀ x ∈ a, x.size ≤ 1048576 := fun x hx => by have := a2 x hx; omega
      rw [ea, Option.bind_some, implFrameW_f a (by omega) a3, Option.bind_some, specFramePut_f a (by omega) a3 (k + 1 + 1) (by omega) (by omega), Option.bind_some]
      show (if (frameW a).toList = (frameW a).toList then _ else _) = _
      rw [if_pos rfl, implFrameOk_f a (by omega) a3 (k + 1 + 1) (by omega), Option.bind_some, specFrameOk_f a (by omega) a3 (k + 1 + 1) (by omega), Option.bind_some, if_neg (by simp), Option.bind_some]
      have h2 := frame_j2 t (by omega) k (by omega)
      by_cases hA : frameOkV a = true
      · have hWa : frameW a = frameV a := by unfold frameW; rw [if_pos hA]
        obtain ⟨w1, w2, w3⟩ := frame_words a hA
        have hga := frame_get a hA t.data.toList
        rw [hWa, hA]
        generalize frameV a = f at *
        have hb : (f.toList != ([] : List UInt8)) = true := bne_iff_ne.mpr (ne_nil w2)
        rw [hb]
        show laws_FnFrame.j1 (k + 1 + 1) l1 a f false = some true
        simp only [laws_FnFrame.j1]
        have hfg : f ++ t = B (f.data.toList ++ t.data.toList) := by rw [← B_append, B_of, B_of]
        have hI : impl_FrameGet.f (k + 1) (f ++ t) = some (a, (f.size : Int)) := by
          rw [hfg, implFrameGet_f _ (by rw [List.length_append, data_length, data_length]; omega) (k + 1) (by omega), hga]
        rw [if_neg (by decide), et, Option.bind_some, if_neg (ne_nil w2), if_pos (by omega), hI, Option.bind_some, if_pos rfl, texts_f (k + 1) a (by omega) (by omega), Option.bind_some, if_pos rfl]
        exact h2
      · have hWa : frameW a = ⟨#[]⟩ := by unfold frameW; rw [if_neg hA]
        have hf0 : frameOkV a = false := by simpa using hA
        rw [hWa, hf0]
        have hb : ((⟨#[]⟩ : ByteArray).toList != ([] : List UInt8)) = false := by rw [nil_toList]; rfl
        rw [hb]
        show laws_FnFrame.j1 (k + 1 + 1) l1 a ⟨#[]⟩ false = some true
        simp only [laws_FnFrame.j1]
        rw [if_neg (by decide), et, Option.bind_some, if_pos nil_toList]
        exact h2
  split
  · exact hj _
  · exact hj _
end Go.Proofs.YteocobbddngllaaDoor.Pure
