/- The copies of texts that the exact laws make, and their measure. -/
import Derived.Test.YteocobbddngllaaDoorLemA
import Derived.Test.YteocobbddngllaaDoorV2
import Derived.Test.YteocobbddngllaaDoorPx0

namespace Go.Proofs.YteocobbddngllaaDoor.Lem
set_option linter.unusedVariables false
open Go Go.RowKit Go.Proofs.YteocobbddngllaaDoor.P Go.Proofs.YteocobbddngllaaDoorW.PrintWords Go.Proofs.YteocobbddngllaaDoorW.PrintLast Go.Proofs.YteocobbddngllaaDoorW.PrintMore
abbrev rs (l : List ByteArray) (i : Nat) : ByteArray := rdOf ByteArray.empty l (i : Int)
theorem rs_get (l : List ByteArray) (i : Nat) (h : i < l.length) : rs l i = l[i] := by
  unfold rs rdOf
  have e : (i : Int).toNat = i := by omega
  rw [e, List.getD_eq_getElem?_getD, List.getElem?_eq_getElem h]; rfl
end Go.Proofs.YteocobbddngllaaDoor.Lem
