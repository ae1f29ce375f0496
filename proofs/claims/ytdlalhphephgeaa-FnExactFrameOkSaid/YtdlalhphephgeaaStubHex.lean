/- The program's Hex: what it answers, and that the call comes to it. -/
import Derived.Test.YtdlalhphephgeaaShelf
import Derived.Test.YtdlalhphephgeaaV2
namespace Go.Proofs.Ytdlalhphephgeaa
open Go.RowKit Go.Proofs.YtdlalhphephgeaaW.PrintWords Go.Proofs.YtdlalhphephgeaaW.PrintLast
/-- Two figures for each byte. -/
def impl_Hex.f (a0 : ByteArray) : Option ByteArray := if (a0.size : Int) ≤ 140737488355328 then some ⟨(Lib.Hx.encode a0.data.toList).toArray⟩ else none
theorem encS (s : ByteArray) (b c : Nat) (w : World) (hs : s.size ≤ 140737488355328) (hb : b < w.heap.size)
    (hc : ∀ j, j < s.size → w.cell? ⟨b, j, none⟩ = some (.int .u8 ((s.data.toList.getD j 0).toNat : Int))) :
    Calls Try.prog 34 #[.slice (some ⟨b, 0, none⟩) s.size c] w fun e w' => e = .returned (.string ⟨(Lib.Hx.encode s.data.toList).toArray⟩) ∧ Below w.heap.size w w' := by
  have h := Try.hex_EncodeToString_bytes b 0 c s.data.toList w (fun i h => by rw [Nat.zero_add, hc i (by rw [← data_length]; exact h), List.getD_eq_getElem?_getD, List.getElem?_eq_getElem h]; rfl) hb (by rw [data_length]; omega)
  rw [data_length] at h
  exact h
theorem impl_Hex.calls (a0 : ByteArray) (r : ByteArray) (w : World) (h : impl_Hex.f a0 = some r) :
    Calls Try.prog 15 #[.string a0] w fun e w' => e = .returned (.string r) ∧ Below w.heap.size w w' := by
  unfold impl_Hex.f at h
  by_cases hs0 : (a0.size : Int) ≤ 140737488355328
  · rw [if_pos hs0] at h
    have hs : a0.size ≤ 140737488355328 := by omega
    clear hs0
    obtain rfl := Option.some.inj h
    have kb := fun W => print_bytes (P := Try.prog) 9 44 5 Try.underlying9 Try.underlying44 Try.underlying5 a0 W
    go_enter Try.func15, Try.ntmps15
    go_wp2_with (go_at_call 34; refine (encS a0 w.heap.size _ _ hs ?c1 ?c2).mono ?_; (case c1 => rw [Lib.bytesWorld_size]; omega); (case c2 => intro j hj; exact Lib.bytesWorld_cell _ _ _ _ hj); rintro e w' ⟨rfl, hb⟩; clear kb)
    go_ret
    exact ⟨rfl, (bytes_below (Below.refl _ _) (Nat.le_refl _) 5 a0).trans (hb.mono (by rw [Lib.bytesWorld_size]; omega))⟩
  · rw [if_neg hs0] at h
    cases h
end Go.Proofs.Ytdlalhphephgeaa
