/- The drawn nodes: the reference's draw comes to two nodes, the first one's rows short. -/
import Derived.Test.YtjiidjlmdibhdaaLemNodeEnds
import Derived.Test.YtjiidjlmdibhdaaPx7
import Derived.Test.YtjiidjlmdibhdaaPx9
namespace Go.Proofs.Ytjiidjlmdibhdaa.Lem
set_option linter.unusedVariables false
set_option linter.unusedSimpArgs false
open Go Go.RowKit Go.Proofs.Ytjiidjlmdibhdaa Go.Proofs.Ytjiidjlmdibhdaa.P Go.Proofs.YtjiidjlmdibhdaaW.PrintWords Go.Proofs.YtjiidjlmdibhdaaW.PrintLast Go.Proofs.YtjiidjlmdibhdaaW.PrintMore
/-- It answers some node, its rows short, at most c places on. -/
def Node7 (o : Option R7) (p c : Int) : Prop := ∃ a0 a1 a2 a3 a4 a5 p', o = some (a0, a1, a2, a3, a4, a5, p') ∧ smN (⟨a0, a1, a2, a3, a4, a5⟩ : Nd) ∧ p ≤ p' ∧ p' ≤ p + c
theorem cst4 : cst 4 = 82000 := by simp [cst]
theorem any_l0 (b : List Int) (hb : Bytes b) : ∀ (n k : Nat) (i p : Int) (a0 : Int) (a1 : ByteArray) (a2 : List Nd) (a3 a4 : Int) (a5 : List Nd), 9 ≤ i + n → 0 ≤ i → i ≤ 9 → n + 2 ≤ k → 0 ≤ p → p + n + 1 ≤ 600000 → smN (⟨a0, a1, a2, a3, a4, a5⟩ : Nd) →
    Node7 (spec_l13AnyNode.l0 k i b p a0 a1 a2 a3 a4 a5) p (n + 1) := by
  intro n
  induction n with
  | zero =>
    intro k i p a0 a1 a2 a3 a4 a5 hi h0 h9 hk hp hP hs
    obtain ⟨k, rfl⟩ : ∃ m, k = m + 1 := ⟨k - 1, by omega⟩
    obtain ⟨v, hv, g0, g1⟩ := pick_f k b p 4 (by omega) hb hp (by omega)
    have g1 := g1 (by omega)
    simp only [spec_l13AnyNode.l0]
    rw [hv]
    simp only [Option.bind_some]
    rw [wrap64_id (n := 6 + v) (by omega) (by omega), if_neg (by omega)]
    exact ⟨_, _, _, _, _, _, _, rfl, hs, by omega, by omega⟩
  | succ n ih =>
    intro k i p a0 a1 a2 a3 a4 a5 hi h0 h9 hk hp hP hs
    obtain ⟨k, rfl⟩ : ∃ m, k = m + 1 := ⟨k - 1, by omega⟩
    obtain ⟨v, hv, g0, g1⟩ := pick_f k b p 4 (by omega) hb hp (by omega)
    have g1 := g1 (by omega)
    simp only [spec_l13AnyNode.l0]
    rw [hv]
    simp only [Option.bind_some]
    rw [wrap64_id (n := 6 + v) (by omega) (by omega)]
    by_cases c : i < 6 + v
    · rw [if_pos c, wrap64_id (n := i + 1) (by omega) (by omega)]
      obtain ⟨y0, y1, y2, y3, y4, y5, p2, hy, hsm, r0, r1⟩ := ih k (i + 1) (p + 1) 1 ⟨#[]⟩ [(⟨a0, a1, a2, a3, a4, a5⟩ : Nd)] 0 0 [] (by omega) (by omega) (by omega) (by omega) (by omega) (by omega) (sm_mk (smL_of (by simp) (fun z hz => by rw [List.mem_singleton.mp hz]; exact hs)) sm_nil)
      exact ⟨y0, y1, y2, y3, y4, y5, p2, hy, hsm, by omega, by omega⟩
    · rw [if_neg c]
      exact ⟨_, _, _, _, _, _, _, rfl, hs, by omega, by omega⟩
theorem any_f (k : Nat) (b : List Int) (p : Int) (hb : Bytes b) (hk : 1000 ≤ k) (hp : 0 ≤ p) (hP : p ≤ 400000) : Node7 (spec_l13AnyNode.f k b p) p 90000 := by
  have hc := cst4
  unfold spec_l13AnyNode.f
  obtain ⟨v, hv, h1⟩ := one_f k b p [1, 2, 3, 3, 4] (by simp) (by simp) (by omega) hb hp (by omega)
  have hv4 : v ≤ 4 := by simp at hv; omega
  rw [h1]
  simp only [Option.bind_some]
  obtain ⟨x0, x1, x2, x3, x4, x5, p', hx, hsm, hx1, q0, q1⟩ := node_ok 4 (by omega) k b (p + 1) v (by omega) hb (by omega) (by omega) (by omega)
  rw [hc] at q1
  rw [hx]
  simp only [Option.bind_some]
  obtain ⟨u, hu, g0, g1⟩ := pick_f k b p' 24 (by omega) hb (by omega) (by omega)
  rw [hu]
  simp only [Option.bind_some]
  obtain ⟨n2, n5⟩ := sm_parts hsm
  by_cases c0 : u = 0
  · rw [if_pos c0]
    obtain ⟨t, ht, _, _⟩ := pick_f k b (p' + 1) 4 (by omega) hb (by omega) (by omega)
    rw [ht]
    simp only [Option.bind_some]
    exact ⟨_, _, _, _, _, _, _, rfl, sm_mk n2 n5, by omega, by omega⟩
  rw [if_neg c0]
  by_cases c1 : u = 1
  · rw [if_pos c1]
    obtain ⟨m, hm, hmz⟩ := many_lit k ⟨#[0]⟩ 8 (by omega) (by omega) (by decide)
    have hm' : spec_l1Many.f k ⟨#[0]⟩ 8 = some m := hm
    rw [hm']
    simp only [Option.bind_some]
    have hmz' : m.size = 8 := by rw [hmz]; rfl
    obtain ⟨s, hs, ht⟩ := of_f k b (p' + 1) [⟨#[120]⟩, m] (by simp) (by simp) (by omega) hb (by omega) (by omega)
    have hs8 : s.size ≤ 8 := by
      simp only [List.mem_cons, List.not_mem_nil, or_false] at hs
      rcases hs with rfl | rfl
      · decide
      · omega
    rw [ht]
    simp only [Option.bind_some]
    rw [if_pos (by omega)]
    exact ⟨_, _, _, _, _, _, _, rfl, sm_mk n2 n5, by omega, by omega⟩
  rw [if_neg c1]
  by_cases c2 : u = 2
  · rw [if_pos c2]
    obtain ⟨t, _, ht⟩ := one_f k b (p' + 1) [1, -1] (by simp) (by simp) (by omega) hb (by omega) (by omega)
    rw [ht]
    simp only [Option.bind_some]
    exact ⟨_, _, _, _, _, _, _, rfl, sm_mk n2 n5, by omega, by omega⟩
  rw [if_neg c2]
  by_cases c3 : u = 3
  · rw [if_pos c3]
    obtain ⟨y0, y1, y2, y3, y4, y5, p2, hy, hsm2, r0, r1⟩ := any_l0 b hb 9 k 0 (p' + 1) x0 x1 x2 x3 x4 x5 (by omega) (by omega) (by omega) (by omega) (by omega) (by omega) hsm
    exact ⟨y0, y1, y2, y3, y4, y5, p2, hy, hsm2, by omega, by omega⟩
  rw [if_neg c3]
  by_cases c4 : u = 4
  · rw [if_pos c4]
    obtain ⟨t, ht, f0, f1⟩ := pick_f k b (p' + 1) 4 (by omega) hb (by omega) (by omega)
    have f1 := f1 (by omega)
    rw [ht]
    simp only [Option.bind_some]
    rw [wrap64_id (n := 197 + t) (by omega) (by omega), wrap64_id (n := 8 * (197 + t)) (by omega) (by omega)]
    obtain ⟨m, hm, hmz⟩ := many_f k ⟨#[1]⟩ (8 * (197 + t)) (by omega) (by omega) (by omega) (by show 1 * _ ≤ _; omega) (by decide)
    rw [hm]
    simp only [Option.bind_some]
    exact ⟨_, _, _, _, _, _, _, rfl, sm_mk sm_nil sm_nil, by omega, by omega⟩
  rw [if_neg c4]
  by_cases c5 : u = 5
  · rw [if_pos c5]
    obtain ⟨t, _, ht⟩ := one_f k b (p' + 1) [999, 1000, 1001] (by simp) (by simp) (by omega) hb (by omega) (by omega)
    rw [ht]
    simp only [Option.bind_some]
    exact ⟨_, _, _, _, _, _, _, rfl, sm_mk sm_nil sm_nil, by omega, by omega⟩
  rw [if_neg c5]
  exact ⟨_, _, _, _, _, _, _, rfl, sm_mk n2 n5, by omega, by omega⟩
theorem lift {α : Type} {g : Nat → Option α} (hm : ∀ k, LeO (g k) (g (k + 1))) {v : α} {k : Nat} (e : g k = some v) : ∀ n, g (k + n) = some v
  | 0 => e
  | n + 1 => hm _ _ (lift hm e n)
theorem drawSame_f (l : List Int) (hl : ∀ x ∈ l, (Lit.int .u8 x).wf = true) : ∃ (k : Nat) (x y : Nd), spec_DrawNodeSame.f k l = some (x.f0, x.f1, x.f2, x.f3, x.f4, x.f5, y.f0, y.f1, y.f2, y.f3, y.f4, y.f5) ∧ smN x := by
  obtain ⟨b, hb, hB⟩ := open_f l hl
  obtain ⟨x0, x1, x2, x3, x4, x5, p', hx, hsm, q0, q1⟩ := any_f 1000 b 0 hB (by omega) (by omega) (by omega)
  obtain ⟨K, v, hv⟩ := copy_ends (⟨x0, x1, x2, x3, x4, x5⟩ : Nd) hsm
  have hv := hv (1000 + K) (by omega)
  dsimp only [C8] at hv
  have hx := lift (g := fun k => spec_l13AnyNode.f k b 0) (fun k => spec_l13AnyNode.mono _ _ _) hx K
  obtain ⟨u, hu, g0, g1⟩ := pick_f (1000 + K) b p' 2 (by omega) hB (by omega) (by omega)
  by_cases c : u = 0
  · refine ⟨1000 + K, ⟨x0, x1, x2, x3, x4, x5⟩, ⟨v.1, v.2.1, v.2.2.1, v.2.2.2.1, v.2.2.2.2.1, v.2.2.2.2.2⟩, ?_, hsm⟩
    unfold spec_DrawNodeSame.f
    rw [hb]
    simp only [Option.bind_some]
    rw [hx]
    simp only [Option.bind_some]
    rw [hu]
    simp only [Option.bind_some]
    rw [if_pos c, hv]
    rfl
  · obtain ⟨y0, y1, y2, y3, y4, y5, p2, hy, _, r0, r1⟩ := any_f (1000 + K) b (p' + 1) hB (by omega) (by omega) (by omega)
    refine ⟨1000 + K, ⟨x0, x1, x2, x3, x4, x5⟩, ⟨y0, y1, y2, y3, y4, y5⟩, ?_, hsm⟩
    unfold spec_DrawNodeSame.f
    rw [hb]
    simp only [Option.bind_some]
    rw [hx]
    simp only [Option.bind_some]
    rw [hu]
    simp only [Option.bind_some]
    rw [if_neg c, hy]
    rfl
end Go.Proofs.Ytjiidjlmdibhdaa.Lem
