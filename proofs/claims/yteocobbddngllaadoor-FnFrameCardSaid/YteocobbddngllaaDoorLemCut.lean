/- A drawn text, cut or turned at a drawn place: not much longer. -/
import Derived.Test.YteocobbddngllaaDoorLemDraw
import Derived.Test.YteocobbddngllaaDoorPx25
namespace Go.Proofs.YteocobbddngllaaDoor.Lem
set_option linter.unusedVariables false
open Go Go.RowKit Go.Proofs.YteocobbddngllaaDoor.P Go.Proofs.YteocobbddngllaaDoorW.PrintWords Go.Proofs.YteocobbddngllaaDoorW.PrintLast Go.Proofs.YteocobbddngllaaDoorW.PrintMore
theorem cut_f (k : Nat) (b : List Int) (p : Int) (a : ByteArray) (hb : Bytes b) (hk : 2 ≤ k) (hp : 0 ≤ p) (hP : p ≤ 100000) (ha : a.size ≤ 500000) : ∃ r p', spec_l13Cut.f k b p a = some (r, p') ∧ r.size ≤ 600000 ∧ p ≤ p' ∧ p' ≤ p + 10 := by
  unfold spec_l13Cut.f
  rw [wrap64_id (n := (a.size : Int) + 1) (by omega) (by omega)]
  obtain ⟨v, hv, h0, hv1⟩ := pick_f k b p ((a.size : Int) + 1) (by omega) hb hp (by omega)
  have hv2 := hv1 (by omega)
  rw [hv]
  simp only [Option.bind_some]
  obtain ⟨u, hu, hu0, hu1⟩ := pick_f k b (p + 1) 6 (by omega) hb (by omega) (by omega)
  rw [hu]
  simp only [Option.bind_some]
  have e1 : (a.extract 0 v.toNat).size = v.toNat := by rw [ByteArray.size_extract]; omega
  have e2 : (a.extract v.toNat a.size).size = a.size - v.toNat := by rw [ByteArray.size_extract]; omega
  by_cases c0 : u = 0
  · rw [if_pos c0, if_pos (by omega), if_pos (by omega)]
    obtain ⟨s, hs, he⟩ := of_f k b (p + 1 + 1) [(⟨#[0]⟩ : ByteArray), ⟨#[1]⟩, ⟨#[255]⟩, ⟨#[120]⟩] (by simp) (by simp) (by omega) hb (by omega) (by omega)
    have hsz : s.size = 1 := by
      simp only [List.mem_cons, List.not_mem_nil, or_false] at hs
      rcases hs with rfl | rfl | rfl | rfl <;> rfl
    rw [he]
    simp only [Option.bind_some]
    rw [if_pos (by omega), if_pos (by rw [ByteArray.size_append]; omega)]
    exact ⟨_, _, rfl, by rw [ByteArray.size_append, ByteArray.size_append]; omega, by omega, by omega⟩
  · rw [if_neg c0]
    by_cases c1 : u = 1
    · rw [if_pos c1, if_pos (by omega), if_pos (by omega)]
      exact ⟨_, _, rfl, by omega, by omega, by omega⟩
    · rw [if_neg c1]
      by_cases c2 : u = 2
      · rw [if_pos c2]
        by_cases c3 : v < (a.size : Int)
        · rw [if_pos c3, if_pos (by omega), if_pos (by omega)]
          obtain ⟨x, hx, hx0, hx1⟩ := pick_f k b (p + 1 + 1) 256 (by omega) hb (by omega) (by omega)
          rw [hx]
          simp only [Option.bind_some]
          have e3 : (a.extract (v + 1).toNat a.size).size = a.size - (v + 1).toNat := by rw [ByteArray.size_extract]; omega
          have e4 : (strOfNums [x % 256]).size = 1 := by rw [strOfNums_size]; rfl
          rw [wrap64_id (n := v + 1) (by omega) (by omega), if_pos (by omega), if_pos (by omega), if_pos (by omega), if_pos (by rw [ByteArray.size_append]; omega)]
          exact ⟨_, _, rfl, by rw [ByteArray.size_append, ByteArray.size_append]; omega, by omega, by omega⟩
        · rw [if_neg c3]; exact ⟨_, _, rfl, by omega, by omega, by omega⟩
      · rw [if_neg c2]; exact ⟨_, _, rfl, by omega, by omega, by omega⟩
end Go.Proofs.YteocobbddngllaaDoor.Lem
