/- Plain facts, merged out of several texts: LemDraw, LemOne. -/
import Derived.Test.YtjeipkfeihahdaaGreatDoorLemBits
import Derived.Test.YtjeipkfeihahdaaGreatDoorPxA
section
namespace Go.Proofs.YtjeipkfeihahdaaGreatDoor.Lem
set_option linter.unusedVariables false
open Go Go.RowKit Go.Proofs.YtjeipkfeihahdaaGreatDoor.P Go.Proofs.YtjeipkfeihahdaaGreatDoorW.PrintWords Go.Proofs.YtjeipkfeihahdaaGreatDoorW.PrintLast Go.Proofs.YtjeipkfeihahdaaGreatDoorW.PrintMore

/-- The bytes of a code. -/
def Bytes (b : List Int) : Prop := (∀ x ∈ b, 0 ≤ x ∧ x ≤ 255) ∧ b.length ≤ 2000
theorem rd_range {b : List Int} (hb : Bytes b) (i : Int) : 0 ≤ rd b i ∧ rd b i ≤ 255 := by
  unfold rd
  rw [List.getD_eq_getElem?_getD]
  rcases Nat.lt_or_ge i.toNat b.length with h | h
  · rw [List.getElem?_eq_getElem h]; exact hb.1 _ (List.getElem_mem _)
  · rw [List.getElem?_eq_none h]; simp
theorem open_f (l : List Int) (h : ∀ x ∈ l, (Lit.int .u8 x).wf = true) : ∃ b, spec_l1Open.f l = some (b, 0) ∧ Bytes b := by
  have hw : ∀ x ∈ l, 0 ≤ x ∧ x ≤ 255 := fun x hx => bounds_u8 (h x hx)
  unfold spec_l1Open.f
  by_cases hl : (l.length : Int) > 2000
  · rw [if_pos hl, if_pos (by omega)]
    exact ⟨_, rfl, fun x hx => hw x (List.mem_of_mem_take hx), by rw [List.length_take]; omega⟩
  · rw [if_neg hl]
    exact ⟨_, rfl, hw, by omega⟩
theorem xor_shift (x : Int) (h0 : 0 ≤ x) (h1 : x < 1099511627776) : 0 ≤ Go.bits .xor .i64 x (wrap64 (Int.tdiv x 64)) := by
  rw [Int.tdiv_eq_ediv_of_nonneg h0, wrap64_id (by omega) (by omega), xor_i64]
  have e1 : (x % 18446744073709551616).toNat = x.toNat := by omega
  have e2 : (x / 64 % 18446744073709551616).toNat = (x / 64).toNat := by omega
  rw [e1, e2]
  have : x.toNat ^^^ (x / 64).toNat < 2 ^ 40 := Nat.xor_lt_two_pow (by omega) (by omega)
  unfold wrap64; omega
theorem tmod_range {x n : Int} (h0 : 0 ≤ x) (hn : 1 ≤ n) : 0 ≤ Int.tmod x n ∧ Int.tmod x n < n := by
  rw [Int.tmod_eq_emod_of_nonneg h0]
  exact ⟨Int.emod_nonneg _ (by omega), Int.emod_lt_of_pos _ (by omega)⟩
theorem pick_f (k : Nat) (b : List Int) (p n : Int) (hk : 1 ≤ k) (hb : Bytes b) (hp : 0 ≤ p) (hP : p ≤ 1000000) :
    ∃ v, spec_l1Rd_pick.f k b p n = some (v, p + 1) ∧ 0 ≤ v ∧ (1 ≤ n → v < n) := by
  obtain ⟨k, rfl⟩ : ∃ m, k = m + 1 := ⟨k - 1, by omega⟩
  unfold spec_l1Rd_pick.f
  rw [wrap64_id (n := p + 1) (by omega) (by omega)]
  by_cases hn : n < 1
  · rw [if_pos hn]
    simp only [spec_l1Rd_pick.j0]
    exact ⟨0, by rw [if_pos trivial], by omega, fun h => by omega⟩
  · rw [if_neg hn]
    simp only [spec_l1Rd_pick.j0]
    rw [wrap64_id (n := p + 1 - 1) (by omega) (by omega)]
    have e : p + 1 - 1 = p := by omega
    rw [e]
    by_cases hl : (b.length : Int) = 0
    · exact ⟨0, by rw [if_pos (by simpa using hl)], by omega, fun h => by omega⟩
    · rw [if_neg (by simpa using hl)]
      have hl2 := hb.2
      by_cases hlt : p < (b.length : Int)
      · have hr := rd_range hb p
        rw [if_pos hlt, if_pos hp, if_neg (by omega), wrap64_id (n := rd b p) (by omega) (by omega)]
        have ht := tmod_range (x := rd b p) (n := n) hr.1 (by omega)
        exact ⟨_, rfl, ht.1, fun _ => ht.2⟩
      · have t1 := tmod_range (x := p) (n := (b.length : Int)) hp (by omega)
        rw [if_neg hlt, if_neg hl, if_pos t1.1, if_pos t1.2]
        rw [wrap64_id (n := p * 7) (by omega) (by omega), wrap64_id (n := p * 7 + 3) (by omega) (by omega)]
        have t2 := tmod_range (x := p * 7 + 3) (n := (b.length : Int)) (by omega) (by omega)
        rw [if_pos t2.1, if_pos t2.2, if_neg (by omega)]
        have r1 := rd_range hb (Int.tmod p (b.length : Int))
        have r2 := rd_range hb (Int.tmod (p * 7 + 3) (b.length : Int))
        generalize rd b (Int.tmod p (b.length : Int)) = x1 at *
        generalize rd b (Int.tmod (p * 7 + 3) (b.length : Int)) = x2 at *
        have hq : 0 ≤ Int.tdiv p (b.length : Int) ∧ Int.tdiv p (b.length : Int) ≤ p := by
          rw [Int.tdiv_eq_ediv_of_nonneg hp]
          exact ⟨Int.ediv_nonneg hp (by omega), Int.ediv_le_self _ hp⟩
        generalize Int.tdiv p (b.length : Int) = q at *
        rw [wrap64_id (n := x1) (by omega) (by omega), wrap64_id (n := x2) (by omega) (by omega), wrap64_id (n := x1 * 131) (by omega) (by omega), wrap64_id (n := x2 * 1117) (by omega) (by omega),
          wrap64_id (n := x1 * 131 + x2 * 1117) (by omega) (by omega), wrap64_id (n := p * 29) (by omega) (by omega), wrap64_id (n := x1 * 131 + x2 * 1117 + p * 29) (by omega) (by omega), wrap64_id (n := q) (by omega) (by omega),
          wrap64_id (n := q * 53) (by omega) (by omega), wrap64_id (n := x1 * 131 + x2 * 1117 + p * 29 + q * 53) (by omega) (by omega)]
        have hx := xor_shift (x1 * 131 + x2 * 1117 + p * 29 + q * 53) (by omega) (by omega)
        have ht := tmod_range (n := n) hx (by omega)
        exact ⟨_, rfl, ht.1, fun _ => ht.2⟩
theorem of_f (k : Nat) (b : List Int) (p : Int) (l : List ByteArray) (hl : l ≠ []) (hs : l.length ≤ 1000) (hk : 1 ≤ k) (hb : Bytes b) (hp : 0 ≤ p) (hP : p ≤ 1000000) :
    ∃ s ∈ l, spec_l1Rd_of.f k b p l = some (s, p + 1) := by
  have hn : 0 < l.length := List.length_pos_iff.2 hl
  obtain ⟨v, hv, h0, h1⟩ := pick_f k b p (l.length : Int) hk hb hp hP
  unfold spec_l1Rd_of.f
  rw [hv]
  simp only [Option.bind_some]
  have hv1 := h1 (by omega)
  rw [if_pos h0, if_pos hv1]
  refine ⟨_, ?_, rfl⟩
  unfold rdOf
  rw [List.getD_eq_getElem?_getD, List.getElem?_eq_getElem (by omega)]
  exact List.getElem_mem _
end Go.Proofs.YtjeipkfeihahdaaGreatDoor.Lem
end
section
namespace Go.Proofs.YtjeipkfeihahdaaGreatDoor.Lem
set_option linter.unusedVariables false
open Go Go.RowKit Go.Proofs.YtjeipkfeihahdaaGreatDoor.P Go.Proofs.YtjeipkfeihahdaaGreatDoorW.PrintWords Go.Proofs.YtjeipkfeihahdaaGreatDoorW.PrintLast Go.Proofs.YtjeipkfeihahdaaGreatDoorW.PrintMore
theorem one_f (k : Nat) (b : List Int) (p : Int) (l : List Int) (hl : l ≠ []) (hs : l.length ≤ 1000) (hk : 1 ≤ k) (hb : Bytes b) (hp : 0 ≤ p) (hP : p ≤ 1000000) :
    ∃ v ∈ l, spec_l1Rd_one.f k b p l = some (v, p + 1) := by
  have hn : 0 < l.length := List.length_pos_iff.2 hl
  obtain ⟨v, hv, h0, h1⟩ := pick_f k b p (l.length : Int) hk hb hp hP
  unfold spec_l1Rd_one.f
  rw [hv]
  simp only [Option.bind_some]
  have hv1 := h1 (by omega)
  rw [if_pos h0, if_pos hv1]
  refine ⟨_, ?_, rfl⟩
  unfold rd
  rw [List.getD_eq_getElem?_getD, List.getElem?_eq_getElem (by omega)]
  exact List.getElem_mem _
end Go.Proofs.YtjeipkfeihahdaaGreatDoor.Lem
end
