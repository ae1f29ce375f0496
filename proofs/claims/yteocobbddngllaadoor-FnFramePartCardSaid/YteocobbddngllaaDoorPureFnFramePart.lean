/- A frame that breaks off is not whole yet: the pure statement. -/
import Derived.Test.YteocobbddngllaaDoorLemFrameAll
import Derived.Test.YteocobbddngllaaDoorLemSegs
import Derived.Test.YteocobbddngllaaDoorPx22
namespace Go.Proofs.YteocobbddngllaaDoor.Pure
set_option linter.unusedVariables false
open Go Go.RowKit Go.Proofs.YteocobbddngllaaDoor Go.Proofs.YteocobbddngllaaDoor.P Go.Proofs.YteocobbddngllaaDoor.Lem Go.Proofs.YteocobbddngllaaDoorW.PrintWords Go.Proofs.YteocobbddngllaaDoorW.PrintLast
theorem FnFramePart : laws_FnFramePart.Pure := by
  intro l0 l1 _ _ hw _ _ hw1
  obtain ⟨k, hk⟩ : ∃ k : Nat, 2000 ≤ k := ⟨_, Nat.le_refl _⟩
  refine ⟨k + 1 + 1, ?_⟩
  unfold laws_FnFramePart.f
  have hj : ∀ x, laws_FnFramePart.j0 (k + 1 + 1) l0 l1 x = some true := by
    intro x
    simp only [laws_FnFramePart.j0]
    cases x with
    | true => rfl
    | false =>
      rw [if_neg (by decide)]
      obtain ⟨l, e, h1, h2⟩ := drawFramePut_f (k + 1) l0 (by omega) hw
      rw [e, Option.bind_some, implFrameW_f l (by omega) (fun x hx => by have := h2 x hx; omega), Option.bind_some, specFramePut_f l (by omega) (fun x hx => by have := h2 x hx; omega) (k + 1) (by omega) (by omega), Option.bind_some]
      have hsp := specFramePut_f l (by omega) (fun x hx => by have := h2 x hx; omega) k (by omega) (by omega)
      show (if (frameW l).toList = (frameW l).toList then _ else _) = _
      rw [if_pos rfl]
      simp only [laws_FnFramePart.j1]
      by_cases hok : frameOkV l = true
      · obtain ⟨w1, w2, w3⟩ := frame_words l hok
        have hW : frameW l = frameV l := by unfold frameW; rw [if_pos hok]
        have hpart := frame_part l hok
        rw [hW]
        generalize frameV l = f at *
        have hne : ¬ (f.toList == ([] : List UInt8)) = true := by
          intro hc
          have h3 : f.toList = [] := by simpa using hc
          rw [ByteArray.toList_eq] at h3
          have h4 := congrArg List.length h3
          rw [data_length] at h4
          have h5 : f.size = 0 := h4
          omega
        rw [if_neg hne, if_neg (by omega), if_pos (Int.emod_nonneg _ (by omega)), if_pos (Int.le_of_lt (Int.emod_lt_of_pos _ (by omega)))]
        obtain ⟨p, hp⟩ : ∃ p : Nat, (l1.length : Int) % (f.size : Int) = (p : Int) := ⟨((l1.length : Int) % (f.size : Int)).toNat, by have := Int.emod_nonneg (l1.length : Int) (show (f.size : Int) ≠ 0 by omega); omega⟩
        have hplt : (p : Int) < (f.size : Int) := by rw [← hp]; exact Int.emod_lt_of_pos _ (by omega)
        have hx : f.extract 0 (p : Int).toNat = B (f.data.toList.take p) := by
          rw [Int.toNat_natCast, ← B_of f, B_extract, List.drop_zero, B_data]
        rw [hp, hx, implFrameGet_f _ (by rw [List.length_take, data_length]; omega) k (by omega), Option.bind_some, hpart p (by omega), if_pos rfl]
        have h8 : ((f.size : Int) % 8) = 0 := by omega
        rw [h8]; rfl
      · have hW : frameW l = ⟨#[]⟩ := by unfold frameW; rw [if_neg hok]
        rw [hW, if_pos (by rw [ByteArray.toList_eq]; rfl), hsp, Option.bind_some, if_neg hok]; simp
  split
  · exact hj _
  · exact hj _
end Go.Proofs.YteocobbddngllaaDoor.Pure
