/- strings.Repeat: what it answers, and that the call comes to it. -/
import Derived.Test.YteocobbddngllaaDoorShelf
import Derived.Test.YteocobbddngllaaDoorV2
namespace Go.Proofs.YteocobbddngllaaDoor
open Go.RowKit Go.Proofs.YteocobbddngllaaDoorW.PrintWords Go.Proofs.YteocobbddngllaaDoorW.PrintLast Go.Proofs.YteocobbddngllaaDoorW.PrintMore
def strings_Repeat.f (s : ByteArray) (n : Int) : Option ByteArray := if (s.size : Int) = 1 ∧ 0 ≤ n ∧ n ≤ 1000000 then some ⟨(Lib.repeatL s.data.toList n.toNat).toArray⟩ else none
theorem strings_Repeat.calls (a0 : ByteArray) (a1 : Int) (r : ByteArray) (w : World) (h : strings_Repeat.f a0 a1 = some r) :
    Calls Tryd.prog 72 #[.string a0, .int .i64 a1] w fun e w' => e = .returned (.string r) ∧ Below w.heap.size w w' := by
  unfold strings_Repeat.f at h
  by_cases hs : (a0.size : Int) = 1 ∧ 0 ≤ a1 ∧ a1 ≤ 1000000
  · rw [if_pos hs] at h
    obtain rfl := Option.some.inj h
    obtain ⟨h1, h2, h3⟩ := hs
    obtain ⟨n, rfl⟩ : ∃ n : Nat, a1 = (n : Int) := ⟨a1.toNat, by omega⟩
    have hz : a0.size = 1 := by omega
    refine (Tryd.strings_Repeat a0 n w (by omega) (by rw [hz]; omega)).mono ?_
    rintro e w' ⟨rfl, hb⟩
    exact ⟨by rw [Int.toNat_natCast], hb⟩
  · rw [if_neg hs] at h
    cases h
end Go.Proofs.YteocobbddngllaaDoor
