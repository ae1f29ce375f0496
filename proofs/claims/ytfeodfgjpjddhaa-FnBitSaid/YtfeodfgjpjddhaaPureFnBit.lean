/- A bit that was put is got, and all others stay: the pure statement. -/
import Derived.Test.YtfeodfgjpjddhaaLemBits2
import Derived.Test.YtfeodfgjpjddhaaLemWord
import Derived.Test.YtfeodfgjpjddhaaLemOne
import Derived.Test.YtfeodfgjpjddhaaPx25
import Derived.Test.YtfeodfgjpjddhaaPx31
namespace Go.Proofs.Ytfeodfgjpjddhaa.Pure
set_option linter.unusedVariables false
open Go.RowKit Go.Proofs.Ytfeodfgjpjddhaa Go.Proofs.Ytfeodfgjpjddhaa.P Go.Proofs.Ytfeodfgjpjddhaa.Lem Go.Proofs.YtfeodfgjpjddhaaW.PrintWords Go.Proofs.YtfeodfgjpjddhaaW.PrintLast
theorem drawBitPut_f (k : Nat) (l : List Int) (hk : 2000 ≤ k) (hl : ∀ x ∈ l, (Lit.int .u8 x).wf = true) :
    ∃ s a b, spec_DrawBitPut.f k l = some (s, a, b) ∧ s.size ≤ 1608 ∧ -1 ≤ a ∧ a ≤ 256 := by
  unfold spec_DrawBitPut.f spec_DrawBitGet.f
  obtain ⟨c, hc, hB⟩ := open_f l hl
  rw [hc]
  simp only [Option.bind_some]
  obtain ⟨s, p, e2, hz, hp1, hp2⟩ := anyWords_f k c 0 hB (by omega) (by omega) (by omega)
  rw [e2]
  simp only [Option.bind_some]
  obtain ⟨u, e3, u0, u1⟩ := pick_f k c p 256 (by omega) hB (by omega) (by omega)
  rw [e3]
  simp only [Option.bind_some]
  have hu := u1 (by omega)
  obtain ⟨a, ha, e5⟩ := one_f k c (p + 1) [0, 7, 8, 63, 64, u, (-1)] (by simp) (by simp) (by omega) hB (by omega) (by omega)
  rw [e5]
  simp only [Option.bind_some]
  obtain ⟨b, hb, e6⟩ := one_f k c 0 [0, 1, 1, 2] (by simp) (by simp) (by omega) hB (by omega) (by omega)
  rw [e6]
  refine ⟨s, a, b, rfl, hz, ?_⟩
  simp only [List.mem_cons, List.not_mem_nil, or_false] at ha
  omega
theorem bit_at {s : ByteArray} {a : Int} (hw : IsW s) (h0 : 0 ≤ a) (h1 : a / 8 < (s.size : Int)) : bitV s a = bt s (a / 8) / 2 ^ (a % 8).toNat % 2 := by
  unfold bitV; rw [if_pos ⟨hw, h0, h1⟩]
theorem byte_fin (s : ByteArray) (i : Int) : ∃ x : Fin 256, bt s i = (x.1 : Int) := by
  have h := bt_range s i
  exact ⟨⟨(bt s i).toNat, by omega⟩, by simp; omega⟩
theorem pow_cast (j : Nat) : (2 : Int) ^ j = ((2 ^ j : Nat) : Int) := by rw [Int.natCast_pow]; rfl
theorem bytesOf_strOf (xs : List Int) (h : ∀ y ∈ xs, 0 ≤ y ∧ y ≤ 255) : bytesOf (strOfNums xs) = xs := by
  unfold bytesOf
  rw [strOfNums_data, List.map_map]
  conv => rhs; rw [← List.map_id xs]
  apply List.map_congr_left
  intro y hy
  have := h y hy
  simp only [Function.comp, id]
  rw [UInt8.toNat_ofNat']
  omega
set_option maxHeartbeats 2000000 in
theorem FnBit : laws_FnBit.Pure := by
  intro l hl1 hl2 hl
  obtain ⟨k, hk⟩ : ∃ k : Nat, 10000 ≤ k := ⟨10000, Nat.le_refl _⟩
  refine ⟨k + 12, ?_⟩
  unfold laws_FnBit.f
  by_cases c1 : (l.length : Int) > 1048576
  · rw [if_pos c1]
  · rw [if_neg c1]
    obtain ⟨s, a, b, e0, hz, h3, h4⟩ := drawBitPut_f (k + 12) l (by omega) hl
    rw [e0]
    simp only [Option.bind_some]
    rw [implBitPut_f s a b (by omega), specBitPut_f]
    simp only [Option.bind_some]
    rw [if_pos trivial, if_neg (by simp), implBitGet_f s a (by omega), specBitGet_f]
    simp only [Option.bind_some]
    rw [if_pos trivial]
    simp only [laws_FnBit.j0]
    by_cases hw : IsW s
    · by_cases hc : 0 ≤ a ∧ a / 8 < (s.size : Int) ∧ 0 ≤ b ∧ b ≤ 1
      · have hv : bitPutV s a b = (strOfNums ((bytesOf s).set (a / 8).toNat (bitByte (bt s (a / 8)) (a % 8) b)), true) := by
          unfold bitPutV; rw [if_pos hw, if_pos hc]
        obtain ⟨x, hx⟩ := byte_fin s (a / 8)
        have hj : ∃ j : Fin 8, a % 8 = (j.1 : Int) := ⟨⟨(a % 8).toNat, by omega⟩, by simp; omega⟩
        obtain ⟨j, hj⟩ := hj
        have hbb : ∃ c : Fin 2, b = (c.1 : Int) := ⟨⟨b.toNat, by omega⟩, by simp; omega⟩
        obtain ⟨c, rfl⟩ := hbb
        have hall := bitNat_all x j c
        have hby := bitByte_nat x.1 j.1 c.1 x.2 j.2 c.2
        rw [hv, hx, hj, hby]
        simp only [Bool.not_true, Bool.false_eq_true, if_false]
        have hzs : (s.size : Int) ≤ 1600 := hw.2
        -- the text with the bit
        obtain ⟨X, hX⟩ : ∃ X, X = strOfNums ((bytesOf s).set (a / 8).toNat ((bitNat x.1 j.1 c.1 : Nat) : Int)) := ⟨_, rfl⟩
        rw [← hX]
        have hlen : (a / 8).toNat < (bytesOf s).length := by rw [bytesOf_length]; omega
        have hXz : X.size = s.size := by rw [hX, strOfNums_size, List.length_set, bytesOf_length]
        have hXw : IsW X := by unfold IsW; rw [hXz]; exact hw
        have hrange : ∀ v : Int, 0 ≤ v → v ≤ 255 → ∀ y ∈ (bytesOf s).set (a / 8).toNat v, 0 ≤ y ∧ y ≤ 255 := by
          intro v v0 v1 y hy
          rcases List.mem_or_eq_of_mem_set hy with h | rfl
          · unfold bytesOf at h
            obtain ⟨q, _, rfl⟩ := List.mem_map.1 h
            have := q.toNat_lt
            omega
          · exact ⟨v0, v1⟩
        have hXb : bt X (a / 8) = ((bitNat x.1 j.1 c.1 : Nat) : Int) := by
          have e : a / 8 = (((a / 8).toNat : Nat) : Int) := by omega
          rw [e, hX, bt_strOf _ _ (hrange _ (by omega) (by omega))]
          rw [List.getD_eq_getElem?_getD, List.getElem?_set_self hlen]; rfl
        have hback : strOfNums ((bytesOf X).set (a / 8).toNat (bt s (a / 8))) = s := by
          have h1 : bytesOf X = (bytesOf s).set (a / 8).toNat ((bitNat x.1 j.1 c.1 : Nat) : Int) := by
            rw [hX]; exact bytesOf_strOf _ (hrange _ (by omega) (by omega))
          rw [h1, List.set_set]
          have h2 : (bytesOf s).set (a / 8).toNat (bt s (a / 8)) = bytesOf s := by
            rw [← rd_bytesOf]
            unfold rd
            rw [List.getD_eq_getElem?_getD, List.getElem?_eq_getElem hlen]
            exact List.set_getElem_self hlen
          rw [h2, strOf_bytesOf]
        -- the eight bits
        have hidx : ∀ i : Int, 0 ≤ i → i ≤ 7 → wrap64 ((wrap64 ((wrap64 (Int.tdiv a 8)) * 8)) + i) = a / 8 * 8 + i := by
          intro i i0 i7
          rw [Int.tdiv_eq_ediv_of_nonneg hc.1, wrap64_id (n := a / 8) (by omega) (by omega), wrap64_id (n := a / 8 * 8) (by omega) (by omega), wrap64_id (by omega) (by omega)]
        have hbit : ∀ i : Int, 0 ≤ i → i ≤ 7 → impl_BitGet.f X (a / 8 * 8 + i) = some (((bitNat x.1 j.1 c.1 / 2 ^ i.toNat % 2 : Nat)) : Int) := by
          intro i i0 i7
          have d1 : (a / 8 * 8 + i) / 8 = a / 8 := by omega
          have d2 : (a / 8 * 8 + i) % 8 = i := by omega
          rw [implBitGet_f _ _ (by omega), bit_at hXw (by omega) (by rw [d1, hXz]; exact hc.2.1), d1, d2, hXb, pow_cast]
          rfl
        have hsum := eight_bits ⟨bitNat x.1 j.1 c.1, hall.1⟩
        simp only at hsum
        have hd7 : ∀ i : Nat, bitNat x.1 j.1 c.1 / 2 ^ i % 2 < 2 := fun i => Nat.mod_lt _ (by decide)
        have hget : getV X (a / 8) 1 = ((bitNat x.1 j.1 c.1 : Nat) : Int) := by
          rw [getV_at hXw (Or.inl rfl) (by omega) (by omega) (by omega)]
          show wrap64 (0 * 256 + bt X (a / 8 + ((0 : Nat) : Int))) = _
          have e : a / 8 + ((0 : Nat) : Int) = a / 8 := by omega
          rw [e, hXb, wrap64_id (by omega) (by omega)]; omega
        have hold : bitV s a = ((x.1 / 2 ^ j.1 % 2 : Nat) : Int) := by
          rw [bit_at hw hc.1 hc.2.1, hx, hj, Int.toNat_natCast, pow_cast]; rfl
        have hnew : bitV X a = ((c.1 : Nat) : Int) := by
          rw [bit_at hXw hc.1 (by rw [hXz]; exact hc.2.1), hXb, hj, Int.toNat_natCast, pow_cast]; exact_mod_cast hall.2.1
        have hlt : x.1 / 2 ^ j.1 % 2 < 2 := Nat.mod_lt _ (by decide)
        have hput : impl_BitPut.f X a ((x.1 / 2 ^ j.1 % 2 : Nat) : Int) = some (s, true) := by
          rw [implBitPut_f _ _ _ (by omega)]
          unfold bitPutV
          rw [if_pos hXw, if_pos ⟨hc.1, by rw [hXz]; exact hc.2.1, by omega, by omega⟩, hXb, hj, bitByte_nat _ _ _ hall.1 j.2 hlt, hall.2.2, ← hx, hback]


        obtain ⟨dg, hdg⟩ : ∃ dg : Nat → Nat, ∀ i, bitNat x.1 j.1 c.1 / 2 ^ i % 2 = dg i := ⟨_, fun _ => rfl⟩
        simp only [hdg] at hsum hbit hd7
        have step : ∀ (q : Nat) (n i : Int), 0 ≤ i → i ≤ 7 → 0 ≤ n → n ≤ 255 → laws_FnBit.l0 (q + 1) s a ((c.1 : Nat) : Int) X n i = laws_FnBit.l0 q s a ((c.1 : Nat) : Int) X (2 * n + ((dg i.toNat : Nat) : Int)) (i - 1) := by
          intro q n i i0 i7 n0 n1
          have hd := hd7 i.toNat
          simp only [laws_FnBit.l0]
          rw [if_pos i0, hidx i i0 i7, hbit i i0 i7, Option.bind_some, wrap64_id (n := 2 * n) (by omega) (by omega), wrap64_id (n := 2 * n + _) (by omega) (by omega), wrap64_id (n := i - 1) (by omega) (by omega)]
        have last : ∀ (q : Nat), 8 < q → laws_FnBit.l0 (q + 1) s a ((c.1 : Nat) : Int) X ((bitNat x.1 j.1 c.1 : Nat) : Int) (-1) = some true := by
          intro q hq
          simp only [laws_FnBit.l0]
          rw [if_neg (by omega), implBitGet_f s a (by omega), Option.bind_some, hold, hput, Option.bind_some, implBitGet_f X a (by omega), Option.bind_some, hnew, if_pos rfl,
            Int.tdiv_eq_ediv_of_nonneg hc.1, wrap64_id (n := a / 8) (by omega) (by omega), implGet_f X _ _ q hq, Option.bind_some, hget, if_pos rfl]
          simp
        have t7 := hd7 7; have t6 := hd7 6; have t5 := hd7 5; have t4 := hd7 4; have t3 := hd7 3; have t2 := hd7 2; have t1 := hd7 1; have t0 := hd7 0
        have n7 : (7 : Int).toNat = 7 := rfl
        have n6 : (6 : Int).toNat = 6 := rfl
        have n5 : (5 : Int).toNat = 5 := rfl
        have n4 : (4 : Int).toNat = 4 := rfl
        have n3 : (3 : Int).toNat = 3 := rfl
        have n2 : (2 : Int).toNat = 2 := rfl
        have n1 : (1 : Int).toNat = 1 := rfl
        have n0 : (0 : Int).toNat = 0 := rfl
        have m7 : (7 : Int) - 1 = 6 := rfl
        have m6 : (6 : Int) - 1 = 5 := rfl
        have m5 : (5 : Int) - 1 = 4 := rfl
        have m4 : (4 : Int) - 1 = 3 := rfl
        have m3 : (3 : Int) - 1 = 2 := rfl
        have m2 : (2 : Int) - 1 = 1 := rfl
        have m1 : (1 : Int) - 1 = 0 := rfl
        have m0 : (0 : Int) - 1 = -1 := rfl
        rw [step (k + 10) _ 7 (by omega) (by omega) (by omega) (by omega), n7, m7, step (k + 9) _ 6 (by omega) (by omega) (by omega) (by omega), n6, m6, step (k + 8) _ 5 (by omega) (by omega) (by omega) (by omega), n5, m5,
          step (k + 7) _ 4 (by omega) (by omega) (by omega) (by omega), n4, m4, step (k + 6) _ 3 (by omega) (by omega) (by omega) (by omega), n3, m3, step (k + 5) _ 2 (by omega) (by omega) (by omega) (by omega), n2, m2,
          step (k + 4) _ 1 (by omega) (by omega) (by omega) (by omega), n1, m1, step (k + 3) _ 0 (by omega) (by omega) (by omega) (by omega), n0, m0]
        have hl := last (k + 2) (by omega)
        rw [← hl]
        congr 1
        omega
      · have hv : bitPutV s a b = (s, false) := by unfold bitPutV; rw [if_pos hw, if_neg hc]
        rw [hv]
        simp only [Bool.not_false, if_true]
        rw [if_pos (by simp), implBitGet_f s a (by omega)]
        simp only [Option.bind_some]
        rw [specBitGet_f]
        simp
    · have hv : bitPutV s a b = (⟨#[]⟩, false) := by unfold bitPutV; rw [if_neg hw]
      rw [hv]
      simp only [Bool.not_false, if_true]
      rw [if_pos (by simp), implBitGet_f s a (by omega)]
      simp only [Option.bind_some]
      rw [specBitGet_f]
      simp
end Go.Proofs.Ytfeodfgjpjddhaa.Pure
