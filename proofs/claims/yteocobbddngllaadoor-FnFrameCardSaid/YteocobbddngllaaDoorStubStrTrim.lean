/- strings.Trim by one byte: what it answers, and that the call comes to it. -/
import Derived.Test.YteocobbddngllaaDoorShelf
import Derived.Test.YteocobbddngllaaDoorV2
namespace Go.Proofs.YteocobbddngllaaDoor
open Go.RowKit Go.Proofs.YteocobbddngllaaDoorW.PrintWords Go.Proofs.YteocobbddngllaaDoorW.PrintLast Go.Proofs.YteocobbddngllaaDoorW.PrintMore
def strings_Trim.f (a0 a1 : ByteArray) : Option ByteArray := if (a0.size : Int) ≤ 1000000000 ∧ a1 = ⟨#[0]⟩ then some ⟨(Lib.trimB a0.data.toList 0).toArray⟩ else none
theorem strings_Trim.calls (a0 a1 : ByteArray) (r : ByteArray) (w : World) (h : strings_Trim.f a0 a1 = some r) :
    Calls Tryd.prog 44 #[.string a0, .string a1] w fun e w' => e = .returned (.string r) ∧ Below w.heap.size w w' := by
  unfold strings_Trim.f at h
  by_cases hc : (a0.size : Int) ≤ 1000000000 ∧ a1 = ⟨#[0]⟩
  · rw [if_pos hc] at h
    obtain rfl := Option.some.inj h
    obtain ⟨h1, rfl⟩ := hc
    refine (Tryd.strings_Trim_one a0 0 (by decide) w (by omega)).mono ?_
    rintro e w' ⟨rfl, rfl | rfl⟩
    · exact ⟨rfl, Below.refl _ _⟩
    · exact ⟨rfl, (Below.refl _ _).drew⟩
  · rw [if_neg hc] at h
    cases h
end Go.Proofs.YteocobbddngllaaDoor
