/- What the drawn words are: a text, not too long, some places on. -/
import Derived.Test.YtjiidjlmdibhdaaLemDraw
import Derived.Test.YtjiidjlmdibhdaaLemBytes
import Derived.Test.YtjiidjlmdibhdaaPx4
namespace Go.Proofs.Ytjiidjlmdibhdaa.Lem
set_option linter.unusedVariables false
open Go Go.RowKit Go.Proofs.Ytjiidjlmdibhdaa.P Go.Proofs.YtjiidjlmdibhdaaW.PrintWords Go.Proofs.YtjiidjlmdibhdaaW.PrintLast Go.Proofs.YtjiidjlmdibhdaaW.PrintMore
theorem many_lit (k : Nat) (s : ByteArray) (n : Nat) (hk : 20 < k) (hn : n ≤ 10) (hs : s.size ≤ 100) : ∃ r, spec_l1Many.f k s n = some r ∧ r.size = s.size * n := by
  have h : s.size * n ≤ 100 * 10 := Nat.mul_le_mul hs hn
  obtain ⟨r, hr, hz⟩ := many_f k s n (by omega) hk (by omega) (by rw [Int.toNat_natCast]; omega) (by omega)
  exact ⟨r, hr, by rw [hz, Int.toNat_natCast]⟩
theorem word_f (k : Nat) (b : List Int) (p : Int) (hk : 30 ≤ k) (hb : Bytes b) (hp : 0 ≤ p) (hP : p ≤ 900000) : ∃ s, spec_l13Word.f k b p = some (s, p + 3) ∧ s.size = 8 := by
  unfold spec_l13Word.f
  obtain ⟨r1, e1, z1⟩ := many_lit k ⟨#[0]⟩ 8 (by omega) (by omega) (by decide)
  obtain ⟨r2, e2, z2⟩ := many_lit k ⟨#[0]⟩ 7 (by omega) (by omega) (by decide)
  obtain ⟨r3, e3, z3⟩ := many_lit k ⟨#[255]⟩ 8 (by omega) (by omega) (by decide)
  have c8 : ((8 : Nat) : Int) = 8 := rfl
  have c7 : ((7 : Nat) : Int) = 7 := rfl
  rw [c8] at e1 e3
  rw [c7] at e2
  rw [e1, e2, e3]
  simp only [Option.bind_some]
  rw [if_pos (by rw [z2]; decide)]
  obtain ⟨v1, hv1, _, _⟩ := pick_f k b p 256 (by omega) hb hp (by omega)
  rw [hv1]
  simp only [Option.bind_some]
  obtain ⟨v2, hv2, _, _⟩ := pick_f k b (p + 1) 256 (by omega) hb (by omega) (by omega)
  rw [hv2]
  simp only [Option.bind_some]
  have hby := l1Bytes_f (wrap64 ((wrap64 (v1 * 256)) + v2)) 8 (by omega) k (by omega)
  rw [c8] at hby
  rw [hby]
  simp only [Option.bind_some]
  obtain ⟨s, hs, he⟩ := of_f k b (p + 1 + 1) [r1, r1, (⟨#[1]⟩ : ByteArray) ++ r2, r3, ⟨#[97, 98, 99, 100, 101, 102, 103, 104]⟩, ⟨#[0, 0, 97, 0, 0, 0, 98, 0]⟩, ⟨#[97, 98, 99, 0, 101, 102, 103, 104]⟩, strOfNums (leB (wrap64 ((wrap64 (v1 * 256)) + v2)) 8)] (by simp) (by simp) (by omega) hb (by omega) (by omega)
  rw [he]
  simp only [Option.bind_some]
  refine ⟨s, by congr 2; omega, ?_⟩
  simp only [List.mem_cons, List.not_mem_nil, or_false] at hs
  rcases hs with rfl | rfl | rfl | rfl | rfl | rfl | rfl | rfl
  · exact z1
  · exact z1
  · rw [ByteArray.size_append, z2]; rfl
  · exact z3
  · rfl
  · rfl
  · rfl
  · rw [strOfNums_size, leB_length]
theorem words_l0 (b : List Int) (hb : Bytes b) : ∀ (d k : Nat) (x : ByteArray) (p : Int), d + 31 ≤ k → d ≤ 1000 → x.size + 8 * d ≤ 100000 → 0 ≤ p → p + 3 * d ≤ 900000 →
    ∃ r, spec_l13Words.l0 k x d b p = some (r, p + 3 * d) ∧ r.size = x.size + 8 * d := by
  intro d
  induction d with
  | zero =>
    intro k x p hk _ _ _ _
    obtain ⟨k, rfl⟩ : ∃ m, k = m + 1 := ⟨k - 1, by omega⟩
    simp only [spec_l13Words.l0]
    exact ⟨x, by rw [if_neg (by omega)]; simp, by omega⟩
  | succ d ih =>
    intro k x p hk hd hx hp hP
    obtain ⟨k, rfl⟩ : ∃ m, k = m + 1 := ⟨k - 1, by omega⟩
    simp only [spec_l13Words.l0]
    obtain ⟨s, hs, hz⟩ := word_f k b p (by omega) hb hp (by omega)
    rw [if_pos (by omega), hs]
    simp only [Option.bind_some]
    rw [if_pos (by omega), wrap64_id (by omega) (by omega)]
    have e : ((d + 1 : Nat) : Int) - 1 = (d : Int) := by omega
    rw [e]
    obtain ⟨r, hr, hrz⟩ := ih k (x ++ s) (p + 3) (by omega) (by omega) (by rw [ByteArray.size_append, hz]; omega) (by omega) (by omega)
    exact ⟨r, by rw [hr]; congr 2; omega, by rw [hrz, ByteArray.size_append, hz]; omega⟩
theorem words_f (k : Nat) (b : List Int) (p most : Int) (hb : Bytes b) (hm : 0 ≤ most) (hM : most ≤ 500) (hk : 600 ≤ k) (hp : 0 ≤ p) (hP : p ≤ 800000) :
    ∃ r p', spec_l13Words.f k b p most = some (r, p') ∧ r.size ≤ 8 * most.toNat ∧ r.size % 8 = 0 ∧ p ≤ p' ∧ p' ≤ p + 1 + 3 * most := by
  unfold spec_l13Words.f
  rw [wrap64_id (by omega) (by omega)]
  obtain ⟨v, hv, h0, h1⟩ := pick_f k b p (most + 1) (by omega) hb hp (by omega)
  rw [hv]
  simp only [Option.bind_some]
  have hv1 := h1 (by omega)
  obtain ⟨r, hr, hz⟩ := words_l0 b hb v.toNat k ⟨#[]⟩ (p + 1) (by omega) (by omega) (by show 0 + _ ≤ _; omega) (by omega) (by omega)
  have e : (v.toNat : Int) = v := by omega
  rw [e] at hr
  have hz' : r.size = 8 * v.toNat := by rw [hz]; show 0 + _ = _; omega
  exact ⟨r, _, hr, by omega, by omega, by omega, by omega⟩
end Go.Proofs.Ytjiidjlmdibhdaa.Lem
