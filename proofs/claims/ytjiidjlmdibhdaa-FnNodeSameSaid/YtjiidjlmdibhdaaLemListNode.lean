/- A drawn list's node: some node without rows, its text not long. -/
import Derived.Test.YtjiidjlmdibhdaaLemWord
import Derived.Test.YtjiidjlmdibhdaaLemOne
import Derived.Test.YtjiidjlmdibhdaaPx5
import Derived.Test.YtjiidjlmdibhdaaPx6
namespace Go.Proofs.Ytjiidjlmdibhdaa.Lem
set_option linter.unusedVariables false
set_option linter.unusedSimpArgs false
open Go Go.RowKit Go.Proofs.Ytjiidjlmdibhdaa.P Go.Proofs.YtjiidjlmdibhdaaW.PrintWords Go.Proofs.YtjiidjlmdibhdaaW.PrintLast Go.Proofs.YtjiidjlmdibhdaaW.PrintMore
theorem cutBytes_f (a c : Int) (ha : 0 ≤ a) (hA : a < 6) (hc : 0 ≤ c) (hC : c < 12) : ∃ n, spec_l4Bytes.f a c = some n ∧ 0 ≤ n ∧ n ≤ 96 ∧ (a = 1 → Int.tmod c 8 ≠ 0 → 1 ≤ n) := by
  unfold spec_l4Bytes.f spec_l2Bits.f
  simp only [Option.bind_some]
  have hl : (([0, 1, 8, 16, 32, 64, 64] : List Int).length : Int) = 7 := rfl
  rw [if_pos ha, if_pos (by omega)]
  simp only [Option.bind_some]
  have key : ∀ t : Int, (t = 0 ∨ t = 1 ∨ t = 8 ∨ t = 16 ∨ t = 32 ∨ t = 64) → ∃ n, some (wrap64 (Int.tdiv (wrap64 (wrap64 (t * c) + 7)) 8)) = some n ∧ 0 ≤ n ∧ n ≤ 96 ∧ (t = 1 → Int.tmod c 8 ≠ 0 → 1 ≤ n) := by
    intro t ht
    have hb : 0 ≤ t * c ∧ t * c ≤ 704 := by
      rcases ht with rfl | rfl | rfl | rfl | rfl | rfl <;> omega
    have h1 : t = 1 → t * c = c := fun e => by rw [e, Int.one_mul]
    generalize t * c = u at *
    rw [wrap64_id (n := u) (by omega) (by omega), wrap64_id (n := u + 7) (by omega) (by omega), Int.tdiv_eq_ediv_of_nonneg (by omega), wrap64_id (by omega) (by omega)]
    refine ⟨_, rfl, by omega, by omega, fun e hm => ?_⟩
    have := h1 e
    rw [Int.tmod_eq_emod_of_nonneg hc] at hm
    omega
  have hcase : a = 0 ∨ a = 1 ∨ a = 2 ∨ a = 3 ∨ a = 4 ∨ a = 5 := by omega
  rcases hcase with rfl | rfl | rfl | rfl | rfl | rfl
  · obtain ⟨n, h, h0, h1, h2⟩ := key 0 (by omega)
    exact ⟨n, h, h0, h1, fun e => by omega⟩
  · obtain ⟨n, h, h0, h1, h2⟩ := key 1 (by omega)
    exact ⟨n, h, h0, h1, fun _ => h2 rfl⟩
  · obtain ⟨n, h, h0, h1, h2⟩ := key 8 (by omega)
    exact ⟨n, h, h0, h1, fun e => by omega⟩
  · obtain ⟨n, h, h0, h1, h2⟩ := key 16 (by omega)
    exact ⟨n, h, h0, h1, fun e => by omega⟩
  · obtain ⟨n, h, h0, h1, h2⟩ := key 32 (by omega)
    exact ⟨n, h, h0, h1, fun e => by omega⟩
  · obtain ⟨n, h, h0, h1, h2⟩ := key 64 (by omega)
    exact ⟨n, h, h0, h1, fun e => by omega⟩
theorem l4Cut_f (t : ByteArray) (a c : Int) (ha : 0 ≤ a) (hA : a < 6) (hc : 0 ≤ c) (hC : c < 12) (ht : 96 ≤ t.size) (hT : t.size ≤ 100000) : ∃ r, spec_l4Cut.f t a c = some r ∧ r.size ≤ 200 := by
  obtain ⟨n, hn, h0, h1, h2⟩ := cutBytes_f a c ha hA hc hC
  unfold spec_l4Cut.f
  rw [hn]
  simp only [Option.bind_some]
  have hz : (t.extract 0 n.toNat).size = n.toNat := by rw [ByteArray.size_extract]; omega
  rw [if_pos h0, if_pos (by omega)]
  by_cases c1 : a = 1
  · rw [if_pos c1]
    by_cases c2 : Int.tmod c 8 = 0
    · rw [if_pos c2]
      exact ⟨_, rfl, by omega⟩
    · have h3 := h2 c1 c2
      have hm : 0 ≤ Int.tmod c 8 := by rw [Int.tmod_eq_emod_of_nonneg hc]; omega
      rw [if_neg c2, wrap64_id (n := n - 1) (by omega) (by omega), if_pos (by omega), hz, if_pos (by omega), if_pos (by omega), if_pos hm]
      have hz2 : ((t.extract 0 n.toNat).extract 0 (n - 1).toNat).size ≤ 96 := by rw [ByteArray.size_extract, hz]; omega
      generalize (t.extract 0 n.toNat).extract 0 (n - 1).toNat = u at *
      have hz3 : ∀ x : Int, (strOfNums [x]).size = 1 := fun x => by rw [strOfNums_size]; rfl
      rw [hz3, if_pos (by omega)]
      exact ⟨_, rfl, by rw [ByteArray.size_append, hz3]; omega⟩
  · rw [if_neg c1]
    exact ⟨_, rfl, by omega⟩
theorem list_f (k : Nat) (b : List Int) (p : Int) (hb : Bytes b) (hk : 700 ≤ k) (hp : 0 ≤ p) (hP : p ≤ 700000) :
    ∃ a0 a1 a3 a4 p', spec_l13List.f k b p = some (a0, a1, [], a3, a4, [], p') ∧ a1.size ≤ 200 ∧ p ≤ p' ∧ p' ≤ p + 40 := by
  unfold spec_l13List.f
  obtain ⟨v, hv, h0, h1⟩ := pick_f k b p 6 (by omega) hb hp (by omega)
  have h1 := h1 (by omega)
  rw [hv]
  simp only [Option.bind_some]
  obtain ⟨u, hu, g0, g1⟩ := pick_f k b (p + 1) 12 (by omega) hb (by omega) (by omega)
  have g1 := g1 (by omega)
  rw [hu]
  simp only [Option.bind_some]
  obtain ⟨s, p', hs, z0, z1, q0, q1⟩ := words_f k b (p + 1 + 1) 12 hb (by omega) (by omega) (by omega) (by omega) (by omega)
  rw [hs]
  simp only [Option.bind_some]
  obtain ⟨m, hm, hz⟩ := many_f k ⟨#[5]⟩ 96 (by omega) (by omega) (by omega) (by decide) (by decide)
  have hz' : m.size = 96 := by rw [hz]; rfl
  rw [hm]
  simp only [Option.bind_some]
  rw [if_pos (by omega)]
  obtain ⟨r, hr, hR⟩ := l4Cut_f (s ++ m) v u h0 h1 g0 g1 (by rw [ByteArray.size_append]; omega) (by rw [ByteArray.size_append]; omega)
  rw [hr]
  simp only [Option.bind_some]
  exact ⟨2, r, v, u, p', rfl, hR, by omega, by omega⟩
end Go.Proofs.Ytjiidjlmdibhdaa.Lem
