/- strings.Builder's writer and its copy check at this translation: the library's theorems, their layings out of that of strings.Repeat. -/
import Derived.Test.YteocobbddngllaaDoorShelf
import Derived.Shelf.Strings.BuilderK
import Derived.Test.YteocobbddngllaaDoorV2
namespace Go.Proofs.YteocobbddngllaaDoor
open Go.RowKit Go.Proofs.YteocobbddngllaaDoorW.PrintWords Go.Proofs.YteocobbddngllaaDoorW.PrintLast Go.Proofs.YteocobbddngllaaDoorW.PrintMore
theorem writeString (B b : Nat) (bs : List Value) (s : ByteArray) (w : World) (h : Lib.IsBuilderF 39 5 B b bs w) (hlen : bs.length + s.size ≤ 140737488355328) (hBw : B ≤ w.heap.size) :
    Calls Tryd.prog 31 #[.pointer (some ⟨b, 0, none⟩), .string s] w fun e w' => e = .returned (.tuple #[.int .i64 s.size, .nilIface]) ∧
      (Lib.BuilderAtF 39 5 B b (.pointer (some ⟨b, 0, none⟩)) (bs ++ Lib.strCells s) w' ∧ Below B w w' ∧ Lib.OthersKept 5 (some b) w w') :=
  Any.Builder_WriteString_k (ρ := Tryd.lays105_ren) { Tryd.lays105 with } Tryd.Builder_Extra_105 B b bs s w h hlen hBw
theorem wrap64_small (n : Int) (h0 : 0 ≤ n) (h1 : n < 10000000) : wrap64 (n + 1) = n + 1 := by unfold wrap64; omega
/-- A builder at the block b holds these bytes. -/
def Bu (B : Nat) (s : ByteArray) (w : World) : Prop := Lib.IsBuilderF 39 5 B B (Lib.byteCells s.data.toList) w
theorem bu_at {T e : TypeId} {B b : Nat} {p : Value} {bs : List Value} {w w' : World} (h : Lib.BuilderAtF T e B b p bs w) (hb : Below w.heap.size w w') : Lib.BuilderAtF T e B b p bs w' := by
  have hl := h.lt
  obtain ⟨h1, v, h2, h3, h4⟩ := h
  refine ⟨h1, v, (hb.block b hl).trans h2, h3.kept (row := none) ⟨hb.os, hb.tape, hb.output, hb.size, fun k hk _ => hb.block k hk⟩ (Classical.em _), h4⟩
theorem Bu.below {B : Nat} {s : ByteArray} {w w' : World} (h : Bu B s w) (hb : Below w.heap.size w w') : Bu B s w' := by
  rcases h with h | h
  · exact Or.inl (bu_at h hb)
  · exact Or.inr (bu_at h hb)
theorem Bu.write {B : Nat} {a : ByteArray} {w : World} (h : Bu B a w) (hB : B ≤ w.heap.size) (s : ByteArray) (hz : a.size + s.size ≤ 140737488355328) :
    Calls Tryd.prog 31 #[.pointer (some ⟨B, 0, none⟩), .string s] w fun e w' => e = .returned (.tuple #[.int .i64 s.size, .nilIface]) ∧ Bu B (a ++ s) w' ∧ Below B w w' := by
  refine (writeString B B _ s w h (by rw [Lib.byteCells_length, data_length]; exact hz) hB).mono ?_
  rintro e w' ⟨he, h1, h2, h3⟩
  refine ⟨he, Or.inr ?_, h2⟩
  have e2 : Lib.byteCells (a ++ s).data.toList = Lib.byteCells a.data.toList ++ Lib.strCells s := by
    rw [ByteArray.data_append, Array.toList_append, Lib.byteCells_append]; rfl
  rw [e2]; exact h1
theorem Bu.fresh_below {w w' : World} (hb : Below (w.alloc (.cells #[.pointer none, .slice none 0 0] 39)).heap.size (w.alloc (.cells #[.pointer none, .slice none 0 0] 39)) w') : Bu w.heap.size ⟨#[]⟩ w' ∧ Below w.heap.size w w' :=
  ⟨Bu.below (Lib.IsBuilderF.of (Lib.fresh_isBuilder 39 5 w)) hb, ((Below.refl _ w).alloc (Nat.le_refl _) _).trans (hb.mono (by simp))⟩
theorem Bu.len {B : Nat} {a : ByteArray} {w : World} (h : Bu B a w) :
    Calls Tryd.prog 41 #[.pointer (some ⟨B, 0, none⟩)] w fun e w' => e = .returned (.int .i64 a.size) ∧ w' = w := by
  have h1 := Tryd.Builder_Len_f B B _ w h
  rw [Lib.byteCells_length, data_length] at h1
  exact h1
theorem Bu.string {B : Nat} {a : ByteArray} {w : World} (h : Bu B a w) (hB : B ≤ w.heap.size) :
    Calls Tryd.prog 37 #[.pointer (some ⟨B, 0, none⟩)] w fun e w' => e = .returned (.string a) ∧ Below B w w' := by
  refine (Tryd.Builder_String_any_k B B _ w h hB).mono ?_
  rintro e w' ⟨he, _, h2, _⟩
  exact ⟨by rw [he], h2⟩
theorem empty_add (s : ByteArray) : (⟨#[]⟩ : ByteArray) ++ s = s := by
  apply ByteArray.ext; rw [ByteArray.data_append]; simp
end Go.Proofs.YteocobbddngllaaDoor
