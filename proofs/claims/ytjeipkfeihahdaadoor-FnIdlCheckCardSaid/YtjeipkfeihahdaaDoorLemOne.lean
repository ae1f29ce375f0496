/- One of some drawn numbers. -/
import Derived.Test.YtjeipkfeihahdaaDoorLemDraw
import Derived.Test.YtjeipkfeihahdaaDoorPx2
namespace Go.Proofs.YtjeipkfeihahdaaDoor.Lem
set_option linter.unusedVariables false
open Go Go.RowKit Go.Proofs.YtjeipkfeihahdaaDoor.P Go.Proofs.YtjeipkfeihahdaaDoorW.PrintWords Go.Proofs.YtjeipkfeihahdaaDoorW.PrintLast Go.Proofs.YtjeipkfeihahdaaDoorW.PrintMore
theorem one_f (k : Nat) (b : List Int) (p : Int) (l : List Int) (hl : l ≠ []) (hs : l.length ≤ 1000) (hk : 1 ≤ k) (hb : Bytes b) (hp : 0 ≤ p) (hP : p ≤ 1000000) :
    ∃ v ∈ l, spec_l1Rd_one.f k b p l = some (v, p + 1) := by
  have hn : 0 < l.length := List.length_pos_iff.2 hl
  obtain ⟨v, hv, h0, h1⟩ := pick_f k b p (l.length : Int) hk hb hp hP
  unfold spec_l1Rd_one.f
  rw [hv]
  simp only [Option.bind_some]
  have hv1 := h1 (by omega)
  rw [if_pos h0, if_pos hv1]
  refine ⟨_, ?_, rfl⟩
  unfold rd
  rw [List.getD_eq_getElem?_getD, List.getElem?_eq_getElem (by omega)]
  exact List.getElem_mem _
end Go.Proofs.YtjeipkfeihahdaaDoor.Lem
