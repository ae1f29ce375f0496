/- The copies of texts that the exact laws make, and their measure. -/
import Derived.Test.YteocobbddngllaaLemBits
import Derived.Test.YteocobbddngllaaPx1
import Derived.Test.YteocobbddngllaaPx5
import Derived.Test.YteocobbddngllaaPx9
namespace Go.Proofs.Yteocobbddngllaa.Lem
set_option linter.unusedVariables false
open Go Go.RowKit Go.Proofs.Yteocobbddngllaa.P Go.Proofs.YteocobbddngllaaW.PrintWords Go.Proofs.YteocobbddngllaaW.PrintLast Go.Proofs.YteocobbddngllaaW.PrintMore
abbrev rs (l : List ByteArray) (i : Nat) : ByteArray := rdOf ByteArray.empty l (i : Int)
theorem rs_get (l : List ByteArray) (i : Nat) (h : i < l.length) : rs l i = l[i] := by
  unfold rs rdOf
  have e : (i : Int).toNat = i := by omega
  rw [e, List.getD_eq_getElem?_getD, List.getElem?_eq_getElem h]; rfl
theorem sz_l0 (l : List ByteArray) (hl : l.length ≤ 1048576) (hs : ∀ x ∈ l, x.size ≤ maxLen) : ∀ (d k i : Nat) (left : Int), i + d = l.length → d < k → 0 ≤ left → left ≤ 1048576 →
    ∃ r, laws_szStringS.l0 k l left i = some r ∧ (0 ≤ r → r ≤ left ∧ ∀ j, i ≤ j → j < l.length → ((rs l j).size : Int) ≤ 1048576) := by
  intro d
  induction d with
  | zero =>
    intro k i left hi hk h0 h1
    obtain ⟨k, rfl⟩ : ∃ m, k = m + 1 := ⟨k - 1, by omega⟩
    simp only [laws_szStringS.l0]
    exact ⟨left, by rw [if_neg (by omega)], fun _ => ⟨by omega, fun j h1 h2 => by omega⟩⟩
  | succ d ih =>
    intro k i left hi hk h0 h1
    obtain ⟨k, rfl⟩ : ∃ m, k = m + 1 := ⟨k - 1, by omega⟩
    simp only [laws_szStringS.l0]
    have hx : (rs l i).size ≤ 9223372036854775807 := by rw [rs_get l i (by omega)]; exact hs _ (List.getElem_mem _)
    rw [if_pos (by omega), if_pos (by omega)]
    have e : rdOf ByteArray.empty l (i : Int) = rs l i := rfl
    rw [e, wrap64_id (n := left - ((rs l i).size : Int)) (by omega) (by omega)]
    by_cases hn : left - ((rs l i).size : Int) < 0
    · rw [if_pos hn]; exact ⟨-1, rfl, fun h => by omega⟩
    · rw [if_neg hn, wrap64_id (by omega) (by omega)]
      obtain ⟨r, hr, hp⟩ := ih k (i + 1) (left - ((rs l i).size : Int)) (by omega) (by omega) (by omega) (by omega)
      have e2 : (i : Int) + 1 = ((i + 1 : Nat) : Int) := by omega
      rw [e2]
      refine ⟨r, hr, fun h => ?_⟩
      obtain ⟨h2, h3⟩ := hp h
      refine ⟨by omega, fun j hj1 hj2 => ?_⟩
      rcases Nat.lt_or_ge i j with hlt | hge
      · exact h3 j (by omega) hj2
      · obtain rfl : j = i := by omega
        omega
theorem sz_f (l : List ByteArray) (hl : l.length ≤ maxLen) (hs : ∀ x ∈ l, x.size ≤ maxLen) (k : Nat) (hk : l.length < k) :
    ∃ r, laws_szStringS.f k l 1048576 = some r ∧ (0 ≤ r → l.length ≤ 1048576 ∧ ∀ x ∈ l, x.size ≤ 1048576) := by
  unfold laws_szStringS.f
  have hl' : l.length ≤ 9223372036854775807 := hl
  rw [wrap64_id (by omega) (by omega)]
  by_cases hn : (1048576 : Int) - (l.length : Int) < 0
  · rw [if_pos hn]; exact ⟨-1, rfl, fun h => by omega⟩
  · rw [if_neg hn]
    obtain ⟨r, hr, hp⟩ := sz_l0 l (by omega) hs l.length k 0 (1048576 - (l.length : Int)) (by omega) hk (by omega) (by omega)
    refine ⟨r, hr, fun h => ⟨by omega, fun x hx => ?_⟩⟩
    obtain ⟨j, hj, rfl⟩ := List.getElem_of_mem hx
    have := (hp h).2 j (by omega) hj
    rw [rs_get l j hj] at this
    omega
theorem to_l0 (l : List ByteArray) (hl : l.length ≤ 1048576) : ∀ (d k i : Nat), i + d = l.length → d < k →
    laws_toStringS.l0 k l (l.take i ++ List.replicate d (⟨#[]⟩ : ByteArray)) i = some l := by
  intro d
  induction d with
  | zero =>
    intro k i hi hk
    obtain ⟨k, rfl⟩ : ∃ m, k = m + 1 := ⟨k - 1, by omega⟩
    simp only [laws_toStringS.l0]
    rw [if_neg (by omega), List.take_of_length_le (by omega)]; simp
  | succ d ih =>
    intro k i hi hk
    obtain ⟨k, rfl⟩ : ∃ m, k = m + 1 := ⟨k - 1, by omega⟩
    simp only [laws_toStringS.l0]
    have e : rdOf ByteArray.empty l (i : Int) = rs l i := rfl
    rw [if_pos (by omega), if_pos (by omega), if_pos (by rw [List.length_append, List.length_take, List.length_replicate]; omega), e, rs_get l i (by omega), wrap64_id (by omega) (by omega)]
    have hlen : (l.take i).length = i := by rw [List.length_take]; omega
    have hset : (l.take i ++ List.replicate (d + 1) (⟨#[]⟩ : ByteArray)).set (i : Int).toNat l[i] = l.take (i + 1) ++ List.replicate d (⟨#[]⟩ : ByteArray) := by
      have e3 : (i : Int).toNat = (l.take i).length := by rw [hlen]; omega
      rw [e3, List.set_append_right _ _ (Nat.le_refl _), Nat.sub_self, List.replicate_succ, List.set_cons_zero, List.take_succ_eq_append_getElem (by omega), List.append_assoc]
      rfl
    rw [hset]
    exact ih k (i + 1) (by omega) (by omega)
theorem to_f (l : List ByteArray) (hl : l.length ≤ 1048576) (k : Nat) (hk : l.length < k) : laws_toStringS.f k l = some l := by
  unfold laws_toStringS.f
  have e : (l.length : Int).toNat = l.length := by omega
  rw [if_pos (by omega), e, if_pos (by omega)]
  have := to_l0 l hl l.length k 0 (by omega) hk
  rw [List.take_zero, List.nil_append] at this
  exact this
theorem eq_l0 (l : List ByteArray) (hl : l.length ≤ 1048576) : ∀ (d k i : Nat), i + d = l.length → d < k → laws_eqStringS.l0 k l l i = some true := by
  intro d
  induction d with
  | zero =>
    intro k i hi hk
    obtain ⟨k, rfl⟩ : ∃ m, k = m + 1 := ⟨k - 1, by omega⟩
    simp only [laws_eqStringS.l0]
    rw [if_neg (by omega)]
  | succ d ih =>
    intro k i hi hk
    obtain ⟨k, rfl⟩ : ∃ m, k = m + 1 := ⟨k - 1, by omega⟩
    simp only [laws_eqStringS.l0]
    rw [if_pos (by omega), if_pos (by omega), if_pos (by omega), if_pos trivial, wrap64_id (by omega) (by omega)]
    exact ih k (i + 1) (by omega) (by omega)
theorem eq_f (l : List ByteArray) (hl : l.length ≤ 1048576) (k : Nat) (hk : l.length < k) : laws_eqStringS.f k l l = some true := by
  unfold laws_eqStringS.f
  rw [if_pos rfl]
  exact eq_l0 l hl l.length k 0 (by omega) hk
end Go.Proofs.Yteocobbddngllaa.Lem
