/- A drawn node and a drawn struct come to an end: some node, its rows short, some places on. -/
import Derived.Test.YtjiidjlmdibhdaaLemListNode
import Derived.Test.YtjiidjlmdibhdaaLemCopy
import Derived.Test.YtjiidjlmdibhdaaStubDraw
namespace Go.Proofs.Ytjiidjlmdibhdaa.Lem
set_option linter.unusedVariables false
set_option linter.unusedSimpArgs false
open Go Go.RowKit Go.Proofs.Ytjiidjlmdibhdaa Go.Proofs.Ytjiidjlmdibhdaa.P Go.Proofs.YtjiidjlmdibhdaaW.PrintWords Go.Proofs.YtjiidjlmdibhdaaW.PrintLast Go.Proofs.YtjiidjlmdibhdaaW.PrintMore
/-- How many places a node of depth d takes at most. -/
def cst : Nat → Int
  | 0 => 0
  | d + 1 => 100 + 9 * cst d
theorem cst_nonneg : ∀ d, 0 ≤ cst d
  | 0 => Int.le_refl _
  | d + 1 => by have := cst_nonneg d; simp only [cst]; omega
abbrev R7 := Int × ByteArray × List Nd × Int × Int × List Nd × Int
/-- It answers some node: its rows short, its text not long, at most c places on. -/
def Comes (o : Option R7) (p c : Int) : Prop := ∃ a0 a1 a2 a3 a4 a5 p', o = some (a0, a1, a2, a3, a4, a5, p') ∧ smN (⟨a0, a1, a2, a3, a4, a5⟩ : Nd) ∧ a1.size ≤ 300 ∧ p ≤ p' ∧ p' ≤ p + c
def nodeOk (d : Nat) : Prop := ∀ (k : Nat) (b : List Int) (p a : Int), 800 + 20 * d ≤ k → Bytes b → 0 ≤ p → p + cst d ≤ 600000 → a ≤ d → Comes (spec_l13Node.f k b p a) p (cst d)
theorem sm_mk {a0 : Int} {a1 : ByteArray} {a2 : List Nd} {a3 a4 : Int} {a5 : List Nd} (h2 : smL a2) (h5 : smL a5) : smN (⟨a0, a1, a2, a3, a4, a5⟩ : Nd) := by simp only [smN]; exact ⟨h2, h5⟩
theorem sm_nil : smL [] := by simp [smL]
theorem struct_l1 (d : Nat) (H : nodeOk d) (hd : d ≤ 100) (b : List Int) (hb : Bytes b) (a2 a3 : Int) (ha3 : a3 ≤ d + 1) (ha3' : 1 ≤ a3) (f0 : Int) (f1 : ByteArray) (hf1 : f1.size ≤ 300) (f3 f4 : Int) : ∀ (n : Nat) (k : Nat) (i p : Int) (acc : List Nd), i + n = a2 → 0 ≤ i → a2 ≤ 10 → acc.length ≤ i → (∀ z ∈ acc, smN z) → 801 + 20 * d + n ≤ k → 0 ≤ p → p + n * cst d ≤ 600000 →
    Comes (spec_l13Struct.l1 k a2 a3 i b p f0 f1 acc f3 f4) p (n * cst d) := by
  intro n
  induction n with
  | zero =>
    intro k i p acc hi h0 h10 hl hs hk hp hP
    obtain ⟨k, rfl⟩ : ∃ m, k = m + 1 := ⟨k - 1, by omega⟩
    simp only [spec_l13Struct.l1]
    rw [if_neg (by omega)]
    exact ⟨_, _, _, _, _, _, _, rfl, sm_mk (smL_of (by omega) hs) sm_nil, hf1, by omega, by omega⟩
  | succ n ih =>
    intro k i p acc hi h0 h10 hl hs hk hp hP
    obtain ⟨k, rfl⟩ : ∃ m, k = m + 1 := ⟨k - 1, by omega⟩
    have hc := cst_nonneg d
    have hm : ((n + 1 : Nat) : Int) * cst d = n * cst d + cst d := by rw [Int.natCast_add, Int.add_mul]; simp
    have hm0 : 0 ≤ (n : Int) * cst d := Int.mul_nonneg (by omega) hc
    obtain ⟨x0, x1, x2, x3, x4, x5, p', hx, hsm, hx1, q0, q1⟩ := H k b p (a3 - 1) (by omega) hb hp (by omega) (by omega)
    simp only [spec_l13Struct.l1]
    rw [if_pos (by omega), wrap64_id (n := a3 - 1) (by omega) (by omega), hx]
    simp only [Option.bind_some]
    rw [if_pos (by omega), wrap64_id (n := i + 1) (by omega) (by omega)]
    obtain ⟨y0, y1, y2, y3, y4, y5, p2, hy, hsm2, hy1, r0, r1⟩ := ih k (i + 1) p' (acc ++ [(⟨x0, x1, x2, x3, x4, x5⟩ : Nd)]) (by omega) (by omega) h10 (by simp; omega) (fun z hz => by
      rcases List.mem_append.mp hz with hz | hz
      · exact hs z hz
      · rw [List.mem_singleton.mp hz]; exact hsm) (by omega) (by omega) (by omega)
    exact ⟨y0, y1, y2, y3, y4, y5, p2, hy, hsm2, hy1, by omega, by omega⟩
theorem struct_l0 (d : Nat) (H : nodeOk d) (hd : d ≤ 100) (b : List Int) (hb : Bytes b) (a1 a2 a3 : Int) (ha1 : a1 ≤ 3) (ha2 : 0 ≤ a2) (ha2' : a2 ≤ 3) (ha3 : a3 ≤ d + 1) (ha3' : 1 ≤ a3) (f0 f3 f4 : Int) : ∀ (n : Nat) (k : Nat) (i p : Int) (t : ByteArray), i + n = a1 → 0 ≤ i → t.size ≤ 8 * i → 806 + 20 * d + n ≤ k → 0 ≤ p → p + 3 * n + 3 * cst d ≤ 600000 →
    Comes (spec_l13Struct.l0 k a1 a2 a3 i b p f0 t f3 f4) p (3 * n + 3 * cst d) := by
  intro n
  induction n with
  | zero =>
    intro k i p t hi h0 ht hk hp hP
    obtain ⟨k, rfl⟩ : ∃ m, k = m + 1 := ⟨k - 1, by omega⟩
    have hc := cst_nonneg d
    have hm : ((a2.toNat : Nat) : Int) * cst d ≤ 3 * cst d := Int.mul_le_mul_of_nonneg_right (by omega) hc
    simp only [spec_l13Struct.l0]
    rw [if_neg (by omega)]
    obtain ⟨y0, y1, y2, y3, y4, y5, p2, hy, hsm2, hy1, r0, r1⟩ := struct_l1 d H hd b hb a2 a3 ha3 ha3' f0 t (by omega) f3 f4 a2.toNat k 0 p [] (by omega) (by omega) (by omega) (by simp) (fun z hz => by cases hz) (by omega) hp (by omega)
    exact ⟨y0, y1, y2, y3, y4, y5, p2, hy, hsm2, hy1, r0, by omega⟩
  | succ n ih =>
    intro k i p t hi h0 ht hk hp hP
    obtain ⟨k, rfl⟩ : ∃ m, k = m + 1 := ⟨k - 1, by omega⟩
    have hc := cst_nonneg d
    obtain ⟨s, hs, hz⟩ := word_f k b p (by omega) hb hp (by omega)
    simp only [spec_l13Struct.l0]
    rw [if_pos (by omega), hs]
    simp only [Option.bind_some]
    rw [if_pos (by omega), wrap64_id (n := i + 1) (by omega) (by omega)]
    obtain ⟨y0, y1, y2, y3, y4, y5, p2, hy, hsm2, hy1, r0, r1⟩ := ih k (i + 1) (p + 3) (t ++ s) (by omega) (by omega) (by rw [ByteArray.size_append]; omega) (by omega) (by omega) (by omega)
    exact ⟨y0, y1, y2, y3, y4, y5, p2, hy, hsm2, hy1, by omega, by omega⟩
theorem struct_ok (d : Nat) (H : nodeOk d) (hd : d ≤ 100) (k : Nat) (b : List Int) (hb : Bytes b) (p a1 a2 a3 : Int) (ha1 : 0 ≤ a1) (ha1' : a1 ≤ 3) (ha2 : 0 ≤ a2) (ha2' : a2 ≤ 3) (ha3 : a3 ≤ d + 1) (ha3' : 1 ≤ a3) (hk : 810 + 20 * d ≤ k) (hp : 0 ≤ p) (hP : p + 9 + 3 * cst d ≤ 600000) :
    Comes (spec_l13Struct.l0 k a1 a2 a3 0 b p 1 (⟨#[]⟩ : ByteArray) 0 0) p (9 + 3 * cst d) := by
  obtain ⟨y0, y1, y2, y3, y4, y5, p2, hy, hsm2, hy1, r0, r1⟩ := struct_l0 d H hd b hb a1 a2 a3 ha1' ha2 ha2' ha3 ha3' 1 0 0 a1.toNat k 0 p ⟨#[]⟩ (by omega) (by omega) (by decide) (by omega) hp (by omega)
  exact ⟨y0, y1, y2, y3, y4, y5, p2, hy, hsm2, hy1, r0, by omega⟩
theorem node_l0 (d : Nat) (H : nodeOk d) (hd : d ≤ 100) (b : List Int) (hb : Bytes b) (a : Int) (ha : a ≤ d + 1) (ha' : 1 ≤ a) (f0 f3 f4 : Int) (f1 : ByteArray) (hf1 : f1.size ≤ 300) : ∀ (n : Nat) (k : Nat) (p : Int) (acc : List Nd), n ≤ 3 → acc.length + n ≤ 10 → (∀ z ∈ acc, smN z) → 801 + 20 * d + n ≤ k → 0 ≤ p → p + n * cst d ≤ 600000 →
    Comes (spec_l13Node.l0 k a n b p f0 f1 acc f3 f4) p (n * cst d) := by
  intro n
  induction n with
  | zero =>
    intro k p acc h3 hl hs hk hp hP
    obtain ⟨k, rfl⟩ : ∃ m, k = m + 1 := ⟨k - 1, by omega⟩
    simp only [spec_l13Node.l0]
    rw [if_neg (by omega)]
    exact ⟨_, _, _, _, _, _, _, rfl, sm_mk (smL_of (by omega) hs) sm_nil, hf1, by omega, by omega⟩
  | succ n ih =>
    intro k p acc h3 hl hs hk hp hP
    obtain ⟨k, rfl⟩ : ∃ m, k = m + 1 := ⟨k - 1, by omega⟩
    have hc := cst_nonneg d
    have hm : ((n + 1 : Nat) : Int) * cst d = n * cst d + cst d := by rw [Int.natCast_add, Int.add_mul]; simp
    have hm0 : 0 ≤ (n : Int) * cst d := Int.mul_nonneg (by omega) hc
    obtain ⟨x0, x1, x2, x3, x4, x5, p', hx, hsm, hx1, q0, q1⟩ := H k b p (a - 1) (by omega) hb hp (by omega) (by omega)
    have e : ((n + 1 : Nat) : Int) - 1 = n := by omega
    simp only [spec_l13Node.l0]
    rw [if_pos (by omega), wrap64_id (n := a - 1) (by omega) (by omega), hx]
    simp only [Option.bind_some]
    rw [if_pos (by omega), e, wrap64_id (n := (n : Int)) (by omega) (by omega)]
    obtain ⟨y0, y1, y2, y3, y4, y5, p2, hy, hsm2, hy1, r0, r1⟩ := ih k p' (acc ++ [(⟨x0, x1, x2, x3, x4, x5⟩ : Nd)]) (by omega) (by simp; omega) (fun z hz => by
      rcases List.mem_append.mp hz with hz | hz
      · exact hs z hz
      · rw [List.mem_singleton.mp hz]; exact hsm) (by omega) (by omega) (by omega)
    exact ⟨y0, y1, y2, y3, y4, y5, p2, hy, hsm2, hy1, by omega, by omega⟩
theorem node_l1 (d : Nat) (H : nodeOk d) (hd : d ≤ 100) (b : List Int) (hb : Bytes b) (a u v : Int) (ha : a ≤ d + 1) (ha' : 1 ≤ a) (hu : 0 ≤ u) (hu' : u ≤ 3) (hv : 0 ≤ v) (hv' : v ≤ 3) (f0 f3 f4 : Int) (f1 : ByteArray) (hf1 : f1.size ≤ 300) : ∀ (n : Nat) (k : Nat) (p : Int) (acc : List Nd), n ≤ 3 → acc.length + n ≤ 10 → (∀ z ∈ acc, smN z) → 811 + 20 * d + n ≤ k → 0 ≤ p → p + n * (9 + 3 * cst d) ≤ 600000 →
    Comes (spec_l13Node.l1 k a u v n b p f0 f1 f3 f4 acc) p (n * (9 + 3 * cst d)) := by
  intro n
  induction n with
  | zero =>
    intro k p acc h3 hl hs hk hp hP
    obtain ⟨k, rfl⟩ : ∃ m, k = m + 1 := ⟨k - 1, by omega⟩
    simp only [spec_l13Node.l1]
    rw [if_neg (by omega)]
    exact ⟨_, _, _, _, _, _, _, rfl, sm_mk sm_nil (smL_of (by omega) hs), hf1, by omega, by omega⟩
  | succ n ih =>
    intro k p acc h3 hl hs hk hp hP
    obtain ⟨k, rfl⟩ : ∃ m, k = m + 1 := ⟨k - 1, by omega⟩
    have hc := cst_nonneg d
    have hm : ((n + 1 : Nat) : Int) * (9 + 3 * cst d) = n * (9 + 3 * cst d) + (9 + 3 * cst d) := by rw [Int.natCast_add, Int.add_mul]; simp
    have hm0 : 0 ≤ (n : Int) * (9 + 3 * cst d) := Int.mul_nonneg (by omega) (by omega)
    obtain ⟨x0, x1, x2, x3, x4, x5, p', hx, hsm, hx1, q0, q1⟩ := struct_ok d H hd k b hb p u v a hu hu' hv hv' ha ha' (by omega) hp (by omega)
    have e : ((n + 1 : Nat) : Int) - 1 = n := by omega
    simp only [spec_l13Node.l1]
    rw [if_pos (by omega), hx]
    simp only [Option.bind_some]
    rw [if_pos (by omega), e, wrap64_id (n := (n : Int)) (by omega) (by omega)]
    obtain ⟨y0, y1, y2, y3, y4, y5, p2, hy, hsm2, hy1, r0, r1⟩ := ih k p' (acc ++ [(⟨x0, x1, x2, x3, x4, x5⟩ : Nd)]) (by omega) (by simp; omega) (fun z hz => by
      rcases List.mem_append.mp hz with hz | hz
      · exact hs z hz
      · rw [List.mem_singleton.mp hz]; exact hsm) (by omega) (by omega) (by omega)
    exact ⟨y0, y1, y2, y3, y4, y5, p2, hy, hsm2, hy1, by omega, by omega⟩
theorem node_ok : ∀ d : Nat, d ≤ 100 → nodeOk d
  | 0, _ => by
    intro k b p a hk hb hp hP ha
    obtain ⟨k, rfl⟩ : ∃ m, k = m + 1 := ⟨k - 1, by omega⟩
    simp only [spec_l13Node.f]
    rw [if_pos (by omega)]
    exact ⟨_, _, _, _, _, _, _, rfl, sm_mk sm_nil sm_nil, by decide, by omega, by simp [cst]⟩
  | d + 1, hd => by
    have H := node_ok d (by omega)
    intro k b p a hk hb hp hP ha
    obtain ⟨k, rfl⟩ : ∃ m, k = m + 1 := ⟨k - 1, by omega⟩
    have hc := cst_nonneg d
    simp only [cst] at hP ⊢
    simp only [spec_l13Node.f]
    by_cases c1 : a < 1
    · rw [if_pos c1]
      exact ⟨_, _, _, _, _, _, _, rfl, sm_mk sm_nil sm_nil, by decide, by omega, by omega⟩
    · rw [if_neg c1]
      obtain ⟨v, hv, h0, h1⟩ := pick_f k b p 6 (by omega) hb hp (by omega)
      rw [hv]
      simp only [Option.bind_some]
      by_cases c2 : v = 0
      · rw [if_pos c2]
        exact ⟨_, _, _, _, _, _, _, rfl, sm_mk sm_nil sm_nil, by decide, by omega, by omega⟩
      rw [if_neg c2]
      by_cases c3 : v = 1
      · rw [if_pos c3]
        obtain ⟨l0, l1, l3, l4, p', hl, hz, q0, q1⟩ := list_f k b (p + 1) hb (by omega) (by omega) (by omega)
        rw [hl]
        simp only [Option.bind_some]
        exact ⟨_, _, _, _, _, _, _, rfl, sm_mk sm_nil sm_nil, by omega, by omega, by omega⟩
      rw [if_neg c3]
      by_cases c4 : v = 2
      · rw [if_pos c4]
        obtain ⟨u, hu, g0, g1⟩ := pick_f k b (p + 1) 4 (by omega) hb (by omega) (by omega)
        have g1 := g1 (by omega)
        have hm : ((u.toNat : Nat) : Int) * cst d ≤ 3 * cst d := Int.mul_le_mul_of_nonneg_right (by omega) hc
        rw [hu]
        simp only [Option.bind_some]
        obtain ⟨y0, y1, y2, y3, y4, y5, p2, hy, hsm2, hy1, r0, r1⟩ := node_l0 d H (by omega) b hb a (by omega) (by omega) 2 6 0 ⟨#[]⟩ (by decide) u.toNat k (p + 1 + 1) [] (by omega) (by simp; omega) (fun z hz => by cases hz) (by omega) (by omega) (by omega)
        rw [Int.toNat_of_nonneg g0] at hy
        exact ⟨y0, y1, y2, y3, y4, y5, p2, hy, hsm2, hy1, by omega, by omega⟩
      rw [if_neg c4]
      by_cases c5 : v = 3
      · rw [if_pos c5]
        obtain ⟨u, hu, g0, g1⟩ := pick_f k b (p + 1) 3 (by omega) hb (by omega) (by omega)
        have g1 := g1 (by omega)
        rw [hu]
        simp only [Option.bind_some]
        obtain ⟨u2, hu2, g2, g3⟩ := pick_f k b (p + 1 + 1) 3 (by omega) hb (by omega) (by omega)
        have g3 := g3 (by omega)
        rw [hu2]
        simp only [Option.bind_some]
        obtain ⟨u3, hu3, g4, g5⟩ := pick_f k b (p + 1 + 1 + 1) 4 (by omega) hb (by omega) (by omega)
        have g5 := g5 (by omega)
        have hm : ((u3.toNat : Nat) : Int) * (9 + 3 * cst d) ≤ 3 * (9 + 3 * cst d) := Int.mul_le_mul_of_nonneg_right (by omega) (by omega)
        rw [hu3]
        simp only [Option.bind_some]
        obtain ⟨y0, y1, y2, y3, y4, y5, p2, hy, hsm2, hy1, r0, r1⟩ := node_l1 d H (by omega) b hb a u u2 (by omega) (by omega) g0 (by omega) g2 (by omega) 2 7 0 ⟨#[]⟩ (by decide) u3.toNat k (p + 1 + 1 + 1 + 1) [] (by omega) (by simp; omega) (fun z hz => by cases hz) (by omega) (by omega) (by omega)
        rw [Int.toNat_of_nonneg g4] at hy
        exact ⟨y0, y1, y2, y3, y4, y5, p2, hy, hsm2, hy1, by omega, by omega⟩
      rw [if_neg c5]
      obtain ⟨u, hu, g0, g1⟩ := pick_f k b (p + 1) 4 (by omega) hb (by omega) (by omega)
      have g1 := g1 (by omega)
      rw [hu]
      simp only [Option.bind_some]
      obtain ⟨u2, hu2, g2, g3⟩ := pick_f k b (p + 1 + 1) 4 (by omega) hb (by omega) (by omega)
      have g3 := g3 (by omega)
      rw [hu2]
      simp only [Option.bind_some]
      obtain ⟨y0, y1, y2, y3, y4, y5, p2, hy, hsm2, hy1, r0, r1⟩ := struct_ok d H (by omega) k b hb (p + 1 + 1 + 1) u u2 a g0 (by omega) g2 (by omega) (by omega) (by omega) (by omega) (by omega) (by omega)
      rw [hy]
      simp only [Option.bind_some]
      exact ⟨y0, y1, y2, y3, y4, y5, p2, rfl, hsm2, hy1, by omega, by omega⟩
end Go.Proofs.Ytjiidjlmdibhdaa.Lem
