/- The library's own variable MaxLen holds some number: what the search of a text in a text asks of the world. -/
import Derived.Test.YteocobbddngllaaDoorShelf
import Derived.Test.YteocobbddngllaaDoorV2
namespace Go.Proofs.YteocobbddngllaaDoor
open Go.RowKit Go.Proofs.YteocobbddngllaaDoorW.PrintWords Go.Proofs.YteocobbddngllaaDoorW.PrintLast Go.Proofs.YteocobbddngllaaDoorW.PrintMore
structure SBw (w : World) : Prop where mk :: (out : ∃ m, w.cell? ⟨0, 0, none⟩ = some (.int .i64 m))
theorem SBw.mv {w w1 : World} (h : SBw w) (hb : Below w.heap.size w w1) : SBw w1 := by
  obtain ⟨m, hm⟩ := h.out
  exact ⟨m, pw_cell_below hb hm⟩
end Go.Proofs.YteocobbddngllaaDoor
