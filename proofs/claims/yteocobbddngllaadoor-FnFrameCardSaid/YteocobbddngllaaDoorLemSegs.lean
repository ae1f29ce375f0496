/- What the drawn segments are: not too many texts, not too long. -/
import Derived.Test.YteocobbddngllaaDoorLemWord
import Derived.Test.YteocobbddngllaaDoorPx12
import Derived.Test.YteocobbddngllaaDoorPx13
import Derived.Test.YteocobbddngllaaDoorPx14
import Derived.Test.YteocobbddngllaaDoorPx9
namespace Go.Proofs.YteocobbddngllaaDoor.Lem
set_option linter.unusedVariables false
open Go Go.RowKit Go.Proofs.YteocobbddngllaaDoor.P Go.Proofs.YteocobbddngllaaDoorW.PrintWords Go.Proofs.YteocobbddngllaaDoorW.PrintLast Go.Proofs.YteocobbddngllaaDoorW.PrintMore
theorem segs_l0 (b : List Int) (hb : Bytes b) : ∀ (d k : Nat) (x : List ByteArray) (p : Int), d + 700 ≤ k → d ≤ 10 → x.length + d ≤ 20 → (∀ y ∈ x, y.size ≤ 100) → 0 ≤ p → p + 10 * d ≤ 100000 →
    ∃ r p', spec_l13Segs.l0 k x d b p = some (r, p') ∧ r.length = x.length + d ∧ (∀ y ∈ r, y.size ≤ 100) ∧ p ≤ p' ∧ p' ≤ p + 10 * d := by
  intro d
  induction d with
  | zero =>
    intro k x p hk _ _ hx hp _
    obtain ⟨k, rfl⟩ : ∃ m, k = m + 1 := ⟨k - 1, by omega⟩
    simp only [spec_l13Segs.l0]
    exact ⟨x, p, by rw [if_neg (by omega)], by omega, hx, by omega, by omega⟩
  | succ d ih =>
    intro k x p hk hd hl hx hp hP
    obtain ⟨k, rfl⟩ : ∃ m, k = m + 1 := ⟨k - 1, by omega⟩
    simp only [spec_l13Segs.l0]
    obtain ⟨r, p1, h1, hz, _, hp1, hp2⟩ := words_f k b p 3 hb (by omega) (by omega) (by omega) hp (by omega)
    have hz' : r.size ≤ 24 := hz
    rw [if_pos (by omega), h1]
    simp only [Option.bind_some]
    rw [if_pos (by omega), wrap64_id (by omega) (by omega)]
    have e : ((d + 1 : Nat) : Int) - 1 = (d : Int) := by omega
    rw [e]
    obtain ⟨r2, p2, e2, h2, h3, h4, h5⟩ := ih k (x ++ [r]) p1 (by omega) (by omega) (by rw [List.length_append, List.length_singleton]; omega) (fun y hy => by
      rcases List.mem_append.1 hy with hy | hy
      · exact hx y hy
      · obtain rfl := List.mem_singleton.1 hy; omega) (by omega) (by omega)
    exact ⟨r2, p2, e2, by rw [h2, List.length_append, List.length_singleton]; omega, h3, by omega, by omega⟩
theorem segs_f (k : Nat) (b : List Int) (p : Int) (hb : Bytes b) (hk : 1000 ≤ k) (hp : 0 ≤ p) (hP : p ≤ 10000) :
    ∃ r p', spec_l13Segs.f k b p = some (r, p') ∧ r.length ≤ 10 ∧ (∀ y ∈ r, y.size ≤ 100) ∧ p ≤ p' ∧ p' ≤ p + 100 := by
  unfold spec_l13Segs.f
  obtain ⟨r, p1, h1, hz, _, hp1, hp2⟩ := words_f k b p 4 hb (by omega) (by omega) (by omega) hp (by omega)
  have hz' : r.size ≤ 32 := hz
  rw [h1]
  simp only [Option.bind_some]
  obtain ⟨v, hv, h0, hv1⟩ := pick_f k b p1 4 (by omega) hb (by omega) (by omega)
  rw [hv]
  simp only [Option.bind_some]
  have hv2 := hv1 (by omega)
  obtain ⟨r2, p2, e2, h2, h3, h4, h5⟩ := segs_l0 b hb v.toNat k [r] (p1 + 1) (by omega) (by omega) (by rw [List.length_singleton]; omega) (fun y hy => by obtain rfl := List.mem_singleton.1 hy; omega) (by omega) (by omega)
  have e : (v.toNat : Int) = v := by omega
  rw [e] at e2
  exact ⟨r2, p2, e2, by rw [h2, List.length_singleton]; omega, h3, by omega, by omega⟩
theorem anySegs_l0 (b : List Int) (hb : Bytes b) : ∀ (d k : Nat) (x : List ByteArray) (p : Int), d + 2 ≤ k → 7 ≤ x.length + d → x.length + d ≤ 40 → (∀ y ∈ x, y.size ≤ 2000) → 0 ≤ p → p + d ≤ 100000 →
    ∃ r p', spec_l13AnySegs.l0 k x b p = some (r, p') ∧ r.length ≤ x.length + d ∧ (∀ y ∈ r, y.size ≤ 2000) ∧ p ≤ p' := by
  intro d
  induction d with
  | zero =>
    intro k x p hk h7 hl hx hp hP
    obtain ⟨k, rfl⟩ : ∃ m, k = m + 1 := ⟨k - 1, by omega⟩
    simp only [spec_l13AnySegs.l0]
    obtain ⟨v, hv, h0, hv1⟩ := pick_f k b p 2 (by omega) hb (by omega) (by omega)
    have hv2 := hv1 (by omega)
    rw [hv]
    simp only [Option.bind_some]
    rw [wrap64_id (by omega) (by omega), if_neg (by omega)]
    exact ⟨x, p + 1, rfl, by omega, hx, by omega⟩
  | succ d ih =>
    intro k x p hk h7 hl hx hp hP
    obtain ⟨k, rfl⟩ : ∃ m, k = m + 1 := ⟨k - 1, by omega⟩
    simp only [spec_l13AnySegs.l0]
    obtain ⟨v, hv, h0, hv1⟩ := pick_f k b p 2 (by omega) hb (by omega) (by omega)
    have hv2 := hv1 (by omega)
    rw [hv]
    simp only [Option.bind_some]
    rw [wrap64_id (by omega) (by omega)]
    by_cases hc : (x.length : Int) < 6 + v
    · rw [if_pos hc, if_pos (by omega)]
      obtain ⟨r, p', e, h1, h2, h3⟩ := ih k (x ++ [⟨#[]⟩]) (p + 1) (by omega) (by rw [List.length_append, List.length_singleton]; omega) (by rw [List.length_append, List.length_singleton]; omega) (fun y hy => by
        rcases List.mem_append.1 hy with hy | hy
        · exact hx y hy
        · obtain rfl := List.mem_singleton.1 hy; exact Nat.zero_le _) (by omega) (by omega)
      exact ⟨r, p', e, by rw [List.length_append, List.length_singleton] at h1; omega, h2, by omega⟩
    · rw [if_neg hc]
      exact ⟨x, p + 1, rfl, by omega, hx, by omega⟩
theorem anySegs_f (k : Nat) (b : List Int) (p : Int) (hb : Bytes b) (hk : 1100 ≤ k) (hp : 0 ≤ p) (hP : p ≤ 1000) :
    ∃ r p', spec_l13AnySegs.f k b p = some (r, p') ∧ r.length ≤ 30 ∧ (∀ y ∈ r, y.size ≤ 2000) := by
  unfold spec_l13AnySegs.f
  obtain ⟨r, p1, h1, hl, hs, hp1, hp2⟩ := segs_f k b p hb (by omega) hp (by omega)
  rw [h1]
  simp only [Option.bind_some]
  obtain ⟨v, hv, h0, hv1⟩ := pick_f k b p1 16 (by omega) hb (by omega) (by omega)
  rw [hv]
  simp only [Option.bind_some]
  have hs2 : ∀ y ∈ r, y.size ≤ 2000 := fun y hy => by have := hs y hy; omega
  by_cases c0 : v = 0
  · rw [if_pos c0, if_pos (by omega)]
    refine ⟨_, _, rfl, by rw [List.length_append, List.length_singleton]; omega, fun y hy => ?_⟩
    rcases List.mem_append.1 hy with hy | hy
    · exact hs2 y hy
    · obtain rfl := List.mem_singleton.1 hy; show 3 ≤ 2000; omega
  · rw [if_neg c0]
    by_cases c1 : v = 1
    · rw [if_pos c1]
      obtain ⟨r2, p2, e, h2, h3, h4⟩ := anySegs_l0 b hb 10 k r (p1 + 1) (by omega) (by omega) (by omega) hs2 (by omega) (by omega)
      exact ⟨r2, p2, e, by omega, h3⟩
    · rw [if_neg c1]
      by_cases c2 : v = 2
      · rw [if_pos c2]
        obtain ⟨u, hu, hu0, hu1⟩ := pick_f k b (p1 + 1) 2 (by omega) hb (by omega) (by omega)
        rw [hu]
        simp only [Option.bind_some]
        have hu2 := hu1 (by omega)
        rw [wrap64_id (n := 200 + u) (by omega) (by omega), wrap64_id (by omega) (by omega)]
        have h1z : (⟨#[0]⟩ : ByteArray).size = 1 := rfl
        obtain ⟨q, hq, hqz⟩ := many_f k ⟨#[0]⟩ (8 * (200 + u)) (by omega) (by omega) (by omega) (by rw [h1z]; omega) (by rw [h1z]; omega)
        rw [hq]
        simp only [Option.bind_some]
        exact ⟨_, _, rfl, by simp, fun y hy => by obtain rfl := List.mem_singleton.1 hy; rw [hqz, h1z]; omega⟩
      · rw [if_neg c2]
        by_cases c3 : v = 3
        · rw [if_pos c3]; exact ⟨_, _, rfl, by simp, fun y hy => by cases hy⟩
        · rw [if_neg c3]; exact ⟨r, _, rfl, by omega, hs2⟩
theorem drawFramePut_f (k : Nat) (l : List Int) (hk : 1100 ≤ k) (hl : ∀ x ∈ l, (Lit.int .u8 x).wf = true) :
    ∃ r, spec_DrawFramePut.f k l = some r ∧ r.length ≤ 30 ∧ (∀ y ∈ r, y.size ≤ 2000) := by
  unfold spec_DrawFramePut.f
  obtain ⟨b, hb, hB⟩ := open_f l hl
  rw [hb]
  simp only [Option.bind_some]
  obtain ⟨r, p', e, h1, h2⟩ := anySegs_f k b 0 hB hk (by omega) (by omega)
  rw [e]
  simp only [Option.bind_some]
  exact ⟨r, rfl, h1, h2⟩
end Go.Proofs.YteocobbddngllaaDoor.Lem
