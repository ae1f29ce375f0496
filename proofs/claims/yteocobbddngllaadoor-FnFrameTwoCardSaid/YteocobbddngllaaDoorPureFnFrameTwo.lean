/- Frames one behind the other are read one behind the other: the pure statement. -/
import Derived.Test.YteocobbddngllaaDoorLemFrameAll
import Derived.Test.YteocobbddngllaaDoorLemSegs
import Derived.Test.YteocobbddngllaaDoorPx24
namespace Go.Proofs.YteocobbddngllaaDoor.Pure
set_option linter.unusedVariables false
open Go Go.RowKit Go.Proofs.YteocobbddngllaaDoor Go.Proofs.YteocobbddngllaaDoor.P Go.Proofs.YteocobbddngllaaDoor.Lem Go.Proofs.YteocobbddngllaaDoorW.PrintWords Go.Proofs.YteocobbddngllaaDoorW.PrintLast
theorem ne_nil {f : ByteArray} (h : 8 ≤ f.size) : ¬ f.toList = [] := by
  intro h3
  rw [ByteArray.toList_eq] at h3
  have h4 := congrArg List.length h3
  rw [data_length] at h4
  have h5 : f.size = 0 := h4
  omega
theorem nil_toList : (⟨#[]⟩ : ByteArray).toList = [] := by rw [ByteArray.toList_eq]
theorem FnFrameTwo : laws_FnFrameTwo.Pure := by
  intro l0 l1 _ _ hw _ _ hw1
  obtain ⟨k, hk⟩ : ∃ k : Nat, 2000 ≤ k := ⟨_, Nat.le_refl _⟩
  refine ⟨k + 1 + 1, ?_⟩
  unfold laws_FnFrameTwo.f
  have hj : ∀ x, laws_FnFrameTwo.j0 (k + 1 + 1) l0 l1 x = some true := by
    intro x
    simp only [laws_FnFrameTwo.j0]
    cases x with
    | true => rfl
    | false =>
      rw [if_neg (by decide)]
      obtain ⟨a, ea, a1, a2⟩ := drawFramePut_f (k + 1) l0 (by omega) hw
      obtain ⟨b, eb, b1, b2⟩ := drawFramePut_f (k + 1) l1 (by omega) hw1
      have hsp := specFramePut_f a (by omega) (fun x hx => by have := a2 x hx; omega) k (by omega) (by omega)
      rw [ea, Option.bind_some, eb, Option.bind_some, implFrameW_f a (by omega) (fun x hx => by have := a2 x hx; omega), Option.bind_some, implFrameW_f b (by omega) (fun x hx => by have := b2 x hx; omega), Option.bind_some, specFramePut_f a (by omega) (fun x hx => by have := a2 x hx; omega) (k + 1) (by omega) (by omega), Option.bind_some]
      show (if (frameW a).toList = (frameW a).toList then _ else _) = _
      rw [if_pos rfl]
      have out : laws_FnFrameTwo.j1 (k + 1) a b (frameW a) (frameW b) true = some true := by
        simp only [laws_FnFrameTwo.j1]
        rw [if_pos trivial, hsp, Option.bind_some]
        show some ((frameW a).toList == (frameW a).toList) = _
        simp
      by_cases hA : frameOkV a = true
      · have hWa : frameW a = frameV a := by unfold frameW; rw [if_pos hA]
        obtain ⟨w1, w2, w3⟩ := frame_words a hA
        rw [hWa] at out ⊢
        rw [if_neg (ne_nil w2)]
        by_cases hB : frameOkV b = true
        · have hWb : frameW b = frameV b := by unfold frameW; rw [if_pos hB]
          obtain ⟨v1, v2, v3⟩ := frame_words b hB
          have hga := frame_get a hA (frameV b).data.toList
          have hgb := frame_get b hB []
          rw [List.append_nil] at hgb
          have hb0 : ((frameW b).toList == ([] : List UInt8)) = false := by rw [beq_eq_false_iff_ne, hWb]; exact ne_nil v2
          rw [hb0, hWb]
          clear out hb0 hWa hWb hsp
          generalize frameV a = f at *
          generalize frameV b = g at *
          have hfg : f ++ g = B (f.data.toList ++ g.data.toList) := by rw [← B_append, B_of, B_of]
          have hx : (f ++ g).extract ((f.size : Nat) : Int).toNat (f ++ g).size = B g.data.toList := by
            rw [Int.toNat_natCast, hfg, B_extract, B_size, List.take_of_length_le (Nat.le_refl _)]
            congr 1
            rw [← data_length f, List.drop_left]
          have hzz : (f ++ g).size = f.size + g.size := ByteArray.size_append
          simp only [laws_FnFrameTwo.j1]
          rw [if_neg (by decide), if_pos (by omega)]
          have hI : impl_FrameGet.f k (f ++ g) = some (a, (f.size : Int)) := by
            rw [hfg, implFrameGet_f _ (by rw [List.length_append, data_length, data_length]; omega) k (by omega), hga]
          have hJ : impl_FrameGet.f k (B g.data.toList) = some (b, (g.size : Int)) := by
            rw [implFrameGet_f _ (by rw [data_length]; omega) k (by omega), hgb]
          rw [hI, Option.bind_some, if_pos (by omega), if_pos (by omega), hx, hJ, Option.bind_some, if_pos rfl, if_pos rfl, texts_f k a (by omega) (by omega), Option.bind_some, if_pos rfl, texts_f k b (by omega) (by omega), Option.bind_some]
        · have hWb : frameW b = ⟨#[]⟩ := by unfold frameW; rw [if_neg hB]
          rw [hWb] at out ⊢
          have hb1 : ((⟨#[]⟩ : ByteArray).toList == ([] : List UInt8)) = true := by rw [nil_toList]; rfl
          rw [hb1]; exact out
      · have hWa : frameW a = ⟨#[]⟩ := by unfold frameW; rw [if_neg hA]
        have hn : (frameW a).toList = [] := by rw [hWa]; exact nil_toList
        rw [if_pos hn]; exact out
  split
  · exact hj _
  · exact hj _
end Go.Proofs.YteocobbddngllaaDoor.Pure
