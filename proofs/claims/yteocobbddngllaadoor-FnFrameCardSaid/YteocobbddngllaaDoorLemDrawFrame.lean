/- What is drawn for reading frames: texts, not too long. -/
import Derived.Test.YteocobbddngllaaDoorLemSegs
import Derived.Test.YteocobbddngllaaDoorLemCut
import Derived.Test.YteocobbddngllaaDoorLemFrameSpec
import Derived.Test.YteocobbddngllaaDoorPx26
namespace Go.Proofs.YteocobbddngllaaDoor.Lem
set_option linter.unusedVariables false
open Go Go.RowKit Go.Proofs.YteocobbddngllaaDoor.P Go.Proofs.YteocobbddngllaaDoorW.PrintWords Go.Proofs.YteocobbddngllaaDoorW.PrintLast Go.Proofs.YteocobbddngllaaDoorW.PrintMore
theorem frameV_small (l : List ByteArray) (h : frameOkV l = true) : (frameV l).size ≤ 2000 := by
  obtain ⟨⟨h1, h6⟩, _, h3⟩ := frameOk_facts h
  have := pad8_size (headV l)
  have := headV_size l
  unfold frameV
  rw [putSegs_size]; omega
theorem drawFrameGet_f (k : Nat) (l : List Int) (hk : 1100 ≤ k) (hl : ∀ x ∈ l, (Lit.int .u8 x).wf = true) : ∃ s, spec_DrawFrameGet.f k l = some s ∧ s.size ≤ 700000 := by
  unfold spec_DrawFrameGet.f
  obtain ⟨b, hb, hB⟩ := open_f l hl
  rw [hb]
  simp only [Option.bind_some]
  obtain ⟨r, p1, h1, hl1, hs, hp1, hp2⟩ := segs_f k b 0 hB (by omega) (by omega) (by omega)
  rw [h1]
  simp only [Option.bind_some]
  rw [specFramePut_f r (by omega) (fun x hx => by have := hs x hx; omega) k (by omega) (by omega), Option.bind_some]
  have hfs : (if frameOkV r = true then frameV r else (⟨#[]⟩ : ByteArray)).size ≤ 2000 := by
    by_cases h : frameOkV r = true
    · rw [if_pos h]; exact frameV_small r h
    · rw [if_neg h]; exact Nat.zero_le _
  generalize (if frameOkV r = true then frameV r else (⟨#[]⟩ : ByteArray)) = q at *
  obtain ⟨s, p2, hs2, hsz, hp3, hp4⟩ := cut_f k b p1 q hB (by omega) (by omega) (by omega) (by omega)
  rw [hs2, Option.bind_some]
  obtain ⟨y, hy, he⟩ := of_f k b p2 [(⟨#[]⟩ : ByteArray), ⟨#[]⟩, ⟨#[109, 111, 114, 101]⟩] (by simp) (by simp) (by omega) hB (by omega) (by omega)
  have hyz : y.size ≤ 4 := by
    simp only [List.mem_cons, List.not_mem_nil, or_false] at hy
    rcases hy with rfl | rfl | rfl
    · exact Nat.zero_le _
    · exact Nat.zero_le _
    · exact Nat.le_refl _
  rw [he, Option.bind_some]
  dsimp only
  rw [if_pos (by omega)]
  exact ⟨_, rfl, by rw [ByteArray.size_append]; omega⟩
end Go.Proofs.YteocobbddngllaaDoor.Lem
