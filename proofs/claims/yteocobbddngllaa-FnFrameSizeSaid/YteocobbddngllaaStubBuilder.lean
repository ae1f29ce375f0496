/- strings.Builder's writer and its copy check at this translation: the library's theorems, their layings out of that of strings.Repeat. -/
import Derived.Test.YteocobbddngllaaShelf
import Derived.Shelf.Strings.BuilderK
namespace Go.Proofs.Yteocobbddngllaa
open Go.RowKit
theorem writeString (B b : Nat) (bs : List Value) (s : ByteArray) (w : World) (h : Lib.IsBuilderF 38 5 B b bs w) (hlen : bs.length + s.size ≤ 140737488355328) (hBw : B ≤ w.heap.size) :
    Calls Try.prog 18 #[.pointer (some ⟨b, 0, none⟩), .string s] w fun e w' => e = .returned (.tuple #[.int .i64 s.size, .nilIface]) ∧
      (Lib.BuilderAtF 38 5 B b (.pointer (some ⟨b, 0, none⟩)) (bs ++ Lib.strCells s) w' ∧ Below B w w' ∧ Lib.OthersKept 5 (some b) w w') :=
  Any.Builder_WriteString_k (ρ := Try.lays105_ren) { Try.lays105 with } Try.Builder_Extra_105 B b bs s w h hlen hBw
end Go.Proofs.Yteocobbddngllaa
