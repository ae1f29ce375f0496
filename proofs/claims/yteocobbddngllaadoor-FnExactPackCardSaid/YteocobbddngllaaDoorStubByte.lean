/- strings.Builder's WriteByte at this translation: the library's theorem, its laying out of that of strings.ReplaceAll. -/
import Derived.Test.YteocobbddngllaaDoorStubBuilder
namespace Go.Proofs.YteocobbddngllaaDoor
open Go.RowKit Go.Proofs.YteocobbddngllaaDoorW.PrintWords Go.Proofs.YteocobbddngllaaDoorW.PrintLast Go.Proofs.YteocobbddngllaaDoorW.PrintMore
def renWB : Go.Shelf.Ren := ⟨fun | 167 => 30 | n => Tryd.lays155_ren.f n, Tryd.lays155_ren.t, Tryd.lays155_ren.g⟩
theorem laysWB : Lays.n167 Tryd.prog renWB := { Tryd.lays155 with
  f167 := Tryd.func30.trans (congrArg some (by kernel_rfl))
  f240 := Tryd.func61.trans (congrArg some (by kernel_rfl))
  f276 := Tryd.lays155.f276 }
theorem extraWB : Builder.Extra Tryd.prog renWB := { Tryd.Builder_Extra_155 with }
theorem writeByte (B b : Nat) (bs : List Value) (c : Int) (w : World) (h : Lib.IsBuilderF 39 5 B b bs w) (hlen : bs.length + 1 ≤ 140737488355328) (hBw : B ≤ w.heap.size) :
    Calls Tryd.prog 30 #[.pointer (some ⟨b, 0, none⟩), .int .u8 c] w fun e w' => e = .returned .nilIface ∧
      (Lib.BuilderAtF 39 5 B b (.pointer (some ⟨b, 0, none⟩)) (bs ++ [.int .u8 c]) w' ∧ Below B w w' ∧ Lib.OthersKept 5 (some b) w w') :=
  Any.Builder_WriteByte_k (ρ := renWB) laysWB extraWB B b bs c w h hlen hBw
theorem Bu.byte {B : Nat} {a : ByteArray} {w : World} (h : Bu B a w) (hB : B ≤ w.heap.size) (c : UInt8) (hz : a.size + 1 ≤ 140737488355328) :
    Calls Tryd.prog 30 #[.pointer (some ⟨B, 0, none⟩), .int .u8 (c.toNat : Int)] w fun e w' => e = .returned .nilIface ∧ Bu B (a ++ ⟨#[c]⟩) w' ∧ Below B w w' := by
  refine (writeByte B B _ (c.toNat : Int) w h (by rw [Lib.byteCells_length, data_length]; exact hz) hB).mono ?_
  rintro e w' ⟨he, h1, h2, h3⟩
  refine ⟨he, Or.inr ?_, h2⟩
  have e2 : Lib.byteCells (a ++ ⟨#[c]⟩).data.toList = Lib.byteCells a.data.toList ++ [.int .u8 (c.toNat : Int)] := by
    rw [ByteArray.data_append, Array.toList_append, Lib.byteCells_append]; rfl
  rw [e2]; exact h1
end Go.Proofs.YteocobbddngllaaDoor
