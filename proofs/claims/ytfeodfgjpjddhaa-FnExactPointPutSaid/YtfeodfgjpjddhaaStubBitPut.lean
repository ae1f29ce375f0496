/- The reference's l1BitPut: what it answers at a bit that is there, and that the call comes to it. -/
import Derived.Test.YtfeodfgjpjddhaaProg
import Derived.Test.YtfeodfgjpjddhaaV2
import Derived.RegionTactic
import Derived.BigRegion
import Derived.Laws.BitsAllLaws
namespace Go.Proofs.Ytfeodfgjpjddhaa
open Go.RowKit Go.Proofs.YtfeodfgjpjddhaaW.PrintWords Go.Proofs.YtfeodfgjpjddhaaW.PrintLast Go.Proofs.YtfeodfgjpjddhaaW.PrintMore
/-- The byte with the bit. -/
def bitByte (x j b : Int) : Int := Go.bits .or .u8 (Go.bits .andNot .u8 x (2 ^ j.toNat % 256)) (wrap64 (b * 2 ^ j.toNat) % 256)
/-- A text with another bit. -/
def spec_l1BitPut.f (a0 : ByteArray) (a1 a2 : Int) : Option ByteArray :=
  if 0 ≤ a1 ∧ a1 / 8 < (a0.size : Int) ∧ (a0.size : Int) ≤ 1000000 ∧ 0 ≤ a2 ∧ a2 ≤ 1 then some (strOfNums ((bytesOf a0).set (a1 / 8).toNat (bitByte (bt a0 (a1 / 8)) (a1 % 8) a2))) else none
theorem row_set {w : World} {g : Nat} {t : TypeId} {fr : Nat × Nat} {cs : Array Value} (h : w.heap[g]? = some (.cells cs t fr)) (i : Nat) (u : Value) : (w.setCell ⟨g, i, none⟩ u).heap[g]? = some (.cells (cs.setIfInBounds i u) t fr) := by
  simp [World.setCell, Array.getElem?_modify, h]
theorem bytes_stored (w : World) (e : TypeId) (s : ByteArray) (i : Nat) (x : Int) (hs : s.size ≤ 1000000) :
    ReadsInt ((Lib.bytesWorld w e s).setCell ⟨w.heap.size, i, none⟩ (.int .u8 x)) .u8 (some ⟨w.heap.size, 0, none⟩) s.size ((bytesOf s).set i x) := by
  refine ⟨by rw [List.length_set, bytesOf_length], by omega, fun _ => ⟨_, rfl, fun j hj => ?_⟩⟩
  rw [add_plain]
  have h1 := row_set (Lib.bytesWorld_at_new w e s) i (.int .u8 x)
  rw [cell_of_row _ _ j _ _ _ h1, Array.getElem?_setIfInBounds]
  have hl : j < s.data.toList.length := by rw [data_length]; exact hj
  have hz : s.size ≤ (Lib.bytesCells w e s).size := by
    unfold Lib.bytesCells
    rw [Array.size_append, Array.size_map]
    exact Nat.le_add_right _ _
  have hold := Lib.bytesWorld_cell w e s j hj
  rw [cell_of_row _ _ j _ _ _ (Lib.bytesWorld_at_new w e s)] at hold
  rw [List.getD_eq_getElem?_getD, List.getElem?_set]
  by_cases hij : i = j
  · subst hij
    rw [if_pos rfl, if_pos (by omega), if_pos rfl, if_pos (by rw [bytesOf_length]; exact hj)]; rfl
  · rw [if_neg hij, if_neg hij, hold]
    unfold bytesOf
    rw [List.getElem?_map, List.getElem?_eq_getElem hl, List.getD_eq_getElem?_getD, List.getElem?_eq_getElem hl]; rfl
theorem bytes_frozen (w : World) (e : TypeId) (s : ByteArray) (i : Nat) (hi : i < s.size) : (Lib.bytesWorld w e s).frozen? ⟨w.heap.size, i, none⟩ = false := by
  have hz : s.size ≤ (Lib.bytesCells w e s).size := by
    unfold Lib.bytesCells
    rw [Array.size_append, Array.size_map]
    exact Nat.le_add_right _ _
  unfold World.frozen?
  rw [Lib.bytesWorld_at_new]
  simp; omega
set_option maxRecDepth 100000 in
set_option maxHeartbeats 4000000 in
theorem spec_l1BitPut.calls (a0 : ByteArray) (a1 a2 : Int) (r : ByteArray) (w : World) (h : spec_l1BitPut.f a0 a1 a2 = some r) :
    Calls Try.prog 69 #[.string a0, .int .i64 a1, .int .i64 a2] w fun e w' => e = .returned (.string r) ∧ Below w.heap.size w w' := by
  unfold spec_l1BitPut.f at h
  by_cases hs : 0 ≤ a1 ∧ a1 / 8 < (a0.size : Int) ∧ (a0.size : Int) ≤ 1000000 ∧ 0 ≤ a2 ∧ a2 ≤ 1
  · rw [if_pos hs] at h
    obtain ⟨h1, h2, h30, h4, h5⟩ := hs
    have h3 : a0.size ≤ 1000000 := by omega
    clear h30
    replace h := Option.some.inj h
    have hr := Aside0.mk h
    clear h
    have kb := fun W => print_bytes (P := Try.prog) 9 22 5 Try.underlying9 Try.underlying22 Try.underlying5 a0 W
    go_enter Try.func69, Try.ntmps69
    go_wp2_with fail
    have hlt : (a1 / 8).toNat < a0.size := by omega
    have hc : (Lib.bytesWorld w 5 a0).cell? ⟨w.heap.size, (a1 / 8).toNat, none⟩ = some (.int .u8 (bt a0 (a1 / 8))) := by
      rw [Lib.bytesWorld_cell _ _ _ _ hlt, ← rd_bytesOf]
      unfold rd bytesOf
      rw [List.getD_eq_getElem?_getD, List.getD_eq_getElem?_getD, List.getElem?_map]
      have : (a1 / 8).toNat < a0.data.toList.length := by rw [data_length]; exact hlt
      rw [List.getElem?_eq_getElem this]; rfl
    have hb := bt_range a0 (a1 / 8)
    have hfz := bytes_frozen w 5 a0 (a1 / 8).toNat hlt
    have hB : Below w.heap.size w (Lib.bytesWorld w 5 a0) := bytes_below (Below.refl _ _) (Nat.le_refl _) _ _
    have hst : ∀ x, (convert 22 9 (.slice (some ⟨w.heap.size, 0, none⟩) a0.size (grownCap w a0.size 0 5))).run Try.prog (((Lib.bytesWorld w 5 a0).setCell ⟨w.heap.size, (a1 / 8).toNat, none⟩ (.int .u8 x)).drew) = .ok (.string (strOfNums ((bytesOf a0).set (a1 / 8).toNat x))) (((Lib.bytesWorld w 5 a0).setCell ⟨w.heap.size, (a1 / 8).toNat, none⟩ (.int .u8 x)).drew) := fun x =>
      string_of_reads (xs := (bytesOf a0).set (a1 / 8).toNat x) Try.underlying22 Try.underlying5 Try.underlying9 (bytes_stored w 5 a0 (a1 / 8).toNat x h3)
    clear kb
    generalize Lib.bytesWorld w 5 a0 = W1 at *
    generalize grownCap w a0.size 0 5 = cap at *
    generalize bt a0 (a1 / 8) = x at *
    go_region
    go_wp2
    go_ret
    exact ⟨by rw [← hr.out]; rfl, (hB.setCell (Nat.le_refl _) _).drew⟩
  · rw [if_neg hs] at h
    cases h
end Go.Proofs.Ytfeodfgjpjddhaa
