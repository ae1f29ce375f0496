/- What the reference's Unpack answers: the plain unpacking. -/
import Derived.Test.YteocobbddngllaaLemUnp
import Derived.Test.YteocobbddngllaaPx11
import Derived.Test.YteocobbddngllaaPx22
import Derived.Test.YteocobbddngllaaPx23
namespace Go.Proofs.Yteocobbddngllaa.Lem
set_option linter.unusedVariables false
set_option linter.unusedSimpArgs false
open Go Go.RowKit Go.Proofs.Yteocobbddngllaa.P Go.Proofs.YteocobbddngllaaW.PrintWords Go.Proofs.YteocobbddngllaaW.PrintLast Go.Proofs.YteocobbddngllaaW.PrintMore
theorem zeros_add (a b : Nat) : zeros a ++ zeros b = zeros (a + b) := by unfold zeros; exact List.replicate_append_replicate
theorem manyZero_l0 : ∀ (d k m p n : Nat), n < 2 ^ d → d < k → d ≤ 20 → m * n + p ≤ 1000000 → n ≤ 1000000 → m ≤ 1000000000000 →
    spec_l1Many.l0 k (B (zeros m)) n (B (zeros p)) = some (B (zeros (p + m * n))) := by
  intro d
  induction d with
  | zero =>
    intro k m p n hn hk _ _ _ _
    obtain ⟨k, rfl⟩ : ∃ m, k = m + 1 := ⟨k - 1, by omega⟩
    simp only [spec_l1Many.l0]
    obtain rfl : n = 0 := by omega
    rw [if_neg (by omega)]; simp
  | succ d ih =>
    intro k m p n hn hk hd hsz hn2 hs
    obtain ⟨k, rfl⟩ : ∃ m, k = m + 1 := ⟨k - 1, by omega⟩
    simp only [spec_l1Many.l0]
    by_cases h0 : n = 0
    · subst h0
      rw [if_neg (by omega)]; simp
    · have hs1 : m ≤ m * n := Nat.le_mul_of_pos_right _ (by omega)
      have e1 : Int.tmod (n : Int) 2 = ((n % 2 : Nat) : Int) := by rw [Int.tmod_eq_emod_of_nonneg (by omega)]; omega
      have e2 : wrap64 (Int.tdiv (n : Int) 2) = ((n / 2 : Nat) : Int) := by
        rw [Int.tdiv_eq_ediv_of_nonneg (by omega), wrap64_id (by omega) (by omega)]; omega
      rw [if_pos (by omega), e1, e2]
      have key : (m + m) * (n / 2) + m * (n % 2) = m * n := by
        have := Nat.div_add_mod n 2
        conv => rhs; rw [← this]
        rw [Nat.mul_add, ← Nat.mul_assoc, Nat.mul_two]
      have z : ∀ q, (B (zeros q)).size = q := fun q => by rw [B_size, zeros_length]
      by_cases hodd : n % 2 = 1
      · rw [if_pos (by omega), if_pos (by rw [z, z]; omega), if_pos (by rw [z]; omega)]
        rw [hodd, Nat.mul_one] at key
        rw [B_append, B_append, zeros_add, zeros_add, ih k (m + m) (p + m) (n / 2) (by rw [Nat.pow_succ] at hn; omega) (by omega) (by omega) (by omega) (by omega) (by omega)]
        congr 3; omega
      · have hev : n % 2 = 0 := by omega
        rw [if_neg (by omega), if_pos (by rw [z]; omega)]
        rw [hev, Nat.mul_zero, Nat.add_zero] at key
        rw [B_append, zeros_add, ih k (m + m) p (n / 2) (by rw [Nat.pow_succ] at hn; omega) (by omega) (by omega) (by omega) (by omega) (by omega), key]
theorem manyZero_f (k n : Nat) (hk : 20 < k) (hn : n ≤ 1000000) : spec_l1Many.f k (⟨#[0]⟩ : ByteArray) n = some (B (zeros n)) := by
  unfold spec_l1Many.f
  have := manyZero_l0 20 k 1 0 n (by omega) hk (by omega) (by omega) hn (by omega)
  rw [Nat.zero_add, Nat.one_mul] at this
  exact this
theorem l3Word_l0 (r : List UInt8) (hr : r.length ≤ 100000000) (tag : UInt8) : ∀ (d k i n : Nat) (acc : List UInt8), i + d = 8 → d < k → n ≤ r.length → acc.length ≤ 8 * i →
    spec_l3Word.l0 k (B r) (tag.toNat : Int) (nums acc) n i = some (match takeW tag d (r.drop n) with | none => ((⟨#[]⟩ : ByteArray), (0 : Int), false) | some (w, j) => (B (acc ++ w), ((n + j : Nat) : Int), true)) := by
  intro d
  induction d with
  | zero =>
    intro k i n acc hi hk hn ha
    obtain ⟨k, rfl⟩ : ∃ m, k = m + 1 := ⟨k - 1, by omega⟩
    simp only [spec_l3Word.l0]
    rw [if_neg (by omega)]
    simp only [takeW]
    rw [B_strOf, List.append_nil]; rfl
  | succ d ih =>
    intro k i n acc hi hk hn ha
    obtain ⟨k, rfl⟩ : ∃ m, k = m + 1 := ⟨k - 1, by omega⟩
    simp only [spec_l3Word.l0]
    rw [if_pos (by omega), if_pos (by omega), nums_length]
    have e2 : wrap64 ((i : Int) + 1) = ((i + 1 : Nat) : Int) := by rw [wrap64_id (by omega) (by omega)]; omega
    have e7 : 7 - d = i := by omega
    rw [e2]
    simp only [takeW]
    rw [e7]
    by_cases hb : bitB tag i = true
    · rw [if_neg (by rw [bitB_i64 tag i (by omega)]; simpa using hb), if_pos hb, B_size]
      by_cases hn2 : n < r.length
      · have hd : r.drop n = r[n] :: r.drop (n + 1) := List.drop_eq_getElem_cons hn2
        have hg : r.getD n 0 = r[n] := by rw [List.getD_eq_getElem?_getD, List.getElem?_eq_getElem hn2]; rfl
        have e3 : wrap64 ((n : Int) + 1) = ((n + 1 : Nat) : Int) := by rw [wrap64_id (by omega) (by omega)]; omega
        rw [if_neg (by omega), if_pos (by omega), if_pos (by omega), if_pos (by omega), B_bt, hg, e3]
        have hna : nums acc ++ [(r[n].toNat : Int)] = nums (acc ++ [r[n]]) := by rw [nums_append]; rfl
        rw [hna, ih k (i + 1) (n + 1) (acc ++ [r[n]]) (by omega) (by omega) (by omega) (by rw [List.length_append, List.length_singleton]; omega), hd]
        dsimp only
        cases takeW tag d (r.drop (n + 1)) with
        | none => rfl
        | some p =>
          obtain ⟨w, j⟩ := p
          simp only [Option.map_some, List.append_assoc, List.singleton_append]
          congr 3; omega
      · rw [if_pos (by omega), List.drop_eq_nil_of_le (by omega)]
    · rw [if_pos (by rw [bitB_i64 tag i (by omega)]; exact hb), if_neg hb, if_pos (by omega)]
      have hna : nums acc ++ [(0 : Int)] = nums (acc ++ [0]) := by rw [nums_append]; rfl
      rw [hna, ih k (i + 1) n (acc ++ [0]) (by omega) (by omega) (by omega) (by rw [List.length_append, List.length_singleton]; omega)]
      cases takeW tag d (r.drop n) with
      | none => rfl
      | some p =>
        obtain ⟨w, j⟩ := p
        simp only [Option.map_some, List.append_assoc, List.singleton_append]
theorem l3Word_f (r : List UInt8) (hr : r.length ≤ 100000000) (tag : UInt8) (k : Nat) (hk : 8 < k) :
    spec_l3Word.f k (B r) (tag.toNat : Int) = some (match takeW tag 8 r with | none => ((⟨#[]⟩ : ByteArray), (0 : Int), false) | some (w, j) => (B w, (j : Int), true)) := by
  unfold spec_l3Word.f
  have := l3Word_l0 r hr tag 8 k 0 0 [] (by omega) hk (by omega) (by simp)
  rw [List.drop_zero] at this
  simp only [Nat.zero_add, List.nil_append] at this
  exact this
set_option maxHeartbeats 4000000 in
theorem unp_j1 (r : List UInt8) (hr : r.length ≤ 100000000) (k n : Nat) (hk : 30 ≤ k)
    (ih : ∀ (o : List UInt8) (p : Nat), o.length ≤ 1600 → p ≤ r.length → r.length - p < n → spec_Unpack.l0 k (B r) (B o) p = some (finU o (unpL n (r.drop p))))
    (o : List UInt8) (p : Nat) (tag : UInt8) (ho : o.length ≤ 2000) (hp : p ≤ r.length) (hn : r.length - p < n) :
    spec_Unpack.j1 (k + 1) (B r) (B o) p (tag.toNat : Int) (decide (tag = 0 ∨ tag = 255)) = some (finU o (afterW tag (r.drop p) (unpL n))) := by
  have fin : ∀ (a : List UInt8) (q : Nat), a.length ≤ 10000 → q ≤ r.length → p ≤ q → (if ((B (o ++ a)).size : Int) > 1600 then (some ((⟨#[]⟩ : ByteArray), false)) else (spec_Unpack.l0 k (B r) (B (o ++ a)) q)) = some (finU (o ++ a) (unpL n (r.drop q))) := by
    intro a q ha hq hpq
    rw [B_size]
    by_cases h : 1600 < (o ++ a).length
    · rw [if_pos (by omega), finU_long _ h]; rfl
    · rw [if_neg (by omega), ih (o ++ a) q (by omega) hq (by omega)]
  simp only [spec_Unpack.j1]
  by_cases h0 : tag = 0 ∨ tag = 255
  · rw [if_pos (by simpa using h0), B_size]
    by_cases hlt : p < r.length
    · have hd : r.drop p = r[p] :: r.drop (p + 1) := List.drop_eq_getElem_cons hlt
      have hg : r.getD p 0 = r[p] := by rw [List.getD_eq_getElem?_getD, List.getElem?_eq_getElem hlt]; rfl
      have e1 : wrap64 ((p : Int) + 1) = ((p + 1 : Nat) : Int) := by rw [wrap64_id (by omega) (by omega)]; omega
      rw [if_neg (by omega), if_pos (by omega), if_pos (by omega), B_bt, hg, e1]
      generalize r[p] = m at hd
      have hm : m.toNat < 256 := m.toNat_lt
      have e2 : wrap64 (8 * wrap64 (m.toNat : Int)) = ((8 * m.toNat : Nat) : Int) := by rw [wrap64_id (n := (m.toNat : Int)) (by omega) (by omega), wrap64_id (by omega) (by omega)]; omega
      rw [e2, hd]
      by_cases t0 : tag = 0
      · rw [if_pos ((tag0 tag).2 t0), manyZero_f k _ (by omega) (by omega), Option.bind_some, if_pos (by rw [B_size, B_size, zeros_length]; omega), B_append]
        rw [fin _ (p + 1) (by rw [zeros_length]; omega) (by omega) (by omega)]
        unfold afterW
        rw [if_pos t0]
        dsimp only
        rw [finU_map]
      · have t255 : tag = 255 := by rcases h0 with h | h <;> first | exact absurd h t0 | exact h
        rw [if_neg (fun h => t0 ((tag0 tag).1 h))]
        have e3 : wrap64 (((p + 1 : Nat) : Int) + ((8 * m.toNat : Nat) : Int)) = ((p + 1 + 8 * m.toNat : Nat) : Int) := by rw [wrap64_id (by omega) (by omega)]; omega
        rw [e3]
        unfold afterW
        rw [if_neg t0, if_pos t255]
        dsimp only
        rw [List.length_drop]
        by_cases hq : p + 1 + 8 * m.toNat ≤ r.length
        · have hx : (B r).extract ((p + 1 : Nat) : Int).toNat ((p + 1 + 8 * m.toNat : Nat) : Int).toNat = B ((r.drop (p + 1)).take (8 * m.toNat)) := by
            rw [Int.toNat_natCast, Int.toNat_natCast, B_extract, List.drop_take]; congr 2; omega
          rw [if_neg (by omega), if_pos (by omega), if_pos (by omega), if_pos (by omega), hx, if_pos (by rw [B_size, B_size, List.length_take]; omega), B_append, if_pos (show 8 * m.toNat ≤ r.length - (p + 1) by omega)]
          rw [fin _ (p + 1 + 8 * m.toNat) (by rw [List.length_take]; omega) (by omega) (by omega), finU_map, List.drop_drop]
        · rw [if_pos (by omega), if_neg (by omega)]; rfl
    · rw [if_pos (by omega), List.drop_eq_nil_of_le (by omega)]
      unfold afterW
      rcases h0 with h | h
      · rw [if_pos h]; rfl
      · subst h; rfl
  · rw [if_neg (by simpa using h0)]
    have t0 : ¬ tag = 0 := fun h => h0 (Or.inl h)
    have t255 : ¬ tag = 255 := fun h => h0 (Or.inr h)
    have := fin [] p (by simp) hp (Nat.le_refl _)
    rw [List.append_nil] at this
    rw [this]
    unfold afterW
    rw [if_neg t0, if_neg t255]
set_option maxHeartbeats 4000000 in
theorem unp_l0 (r : List UInt8) (hr : r.length ≤ 100000000) : ∀ (n k : Nat) (o : List UInt8) (p : Nat), 2 * n + 40 ≤ k → o.length ≤ 1600 → p ≤ r.length → r.length - p < n →
    spec_Unpack.l0 k (B r) (B o) p = some (finU o (unpL n (r.drop p))) := by
  intro n
  induction n with
  | zero => intro k o p _ _ _ h; omega
  | succ n ih =>
    intro k o p hk ho hp hn
    obtain ⟨k, rfl⟩ : ∃ m, k = m + 1 := ⟨k - 1, by omega⟩
    obtain ⟨k, rfl⟩ : ∃ m, k = m + 1 := ⟨k - 1, by omega⟩
    simp only [spec_Unpack.l0]
    rw [B_size]
    by_cases hlt : p < r.length
    · have hd : r.drop p = r[p] :: r.drop (p + 1) := List.drop_eq_getElem_cons hlt
      have hg : r.getD p 0 = r[p] := by rw [List.getD_eq_getElem?_getD, List.getElem?_eq_getElem hlt]; rfl
      have e1 : wrap64 ((p : Int) + 1) = ((p + 1 : Nat) : Int) := by rw [wrap64_id (by omega) (by omega)]; omega
      have hx : (B r).extract ((p + 1 : Nat) : Int).toNat r.length = B (r.drop (p + 1)) := by
        rw [Int.toNat_natCast, B_extract, List.take_of_length_le (Nat.le_refl _)]
      rw [if_pos (by omega), if_pos (by omega), e1, if_pos (by omega), if_pos (by omega), hx, B_bt, hg, hd]
      generalize r[p] = tag at *
      have hm : tag.toNat < 256 := tag.toNat_lt
      have e2 : wrap64 (tag.toNat : Int) = (tag.toNat : Int) := wrap64_id (by omega) (by omega)
      rw [e2, l3Word_f _ (by rw [List.length_drop]; omega) tag (k + 1) (by omega), Option.bind_some]
      simp only [unpL]
      cases hw : takeW tag 8 (r.drop (p + 1)) with
      | none => rfl
      | some wj =>
        obtain ⟨w, j⟩ := wj
        obtain ⟨h1, h2, h3⟩ := takeW_len tag 8 _ w j hw
        rw [List.length_drop] at h2
        have hpj : p + 1 + j ≤ r.length := by clear hr ih hg hx e1 e2 hd hw hk ho hn; omega
        have hnj : r.length - (p + 1 + j) < n := by clear hr ih hg hx e1 e2 hd hw hk ho h2; omega
        have hoj : (o ++ w).length ≤ 2000 := by rw [List.length_append]; clear hr ih hg hx e1 e2 hd hw hk hn h2; omega
        have e3 : wrap64 (((p + 1 : Nat) : Int) + (j : Int)) = ((p + 1 + j : Nat) : Int) := by rw [wrap64_id (by omega) (by omega)]; omega
        dsimp only
        rw [if_pos rfl, if_pos (by rw [B_size, B_size]; omega), B_append, e3, List.drop_drop, finU_map]
        have hj := unp_j1 r hr k n (by omega) (fun o p h1 h2 h3 => ih k o p (by omega) h1 h2 h3) (o ++ w) (p + 1 + j) tag hoj hpj hnj
        by_cases t0 : tag = 0
        · rw [if_pos ((tag0 tag).2 t0)]
          rw [decide_eq_true (Or.inl t0)] at hj
          exact hj
        · rw [if_neg (fun h => t0 ((tag0 tag).1 h))]
          have hb : ((tag.toNat : Int) == 255) = decide (tag = 0 ∨ tag = 255) := by
            by_cases t255 : tag = 255
            · rw [decide_eq_true (Or.inr t255), beq_iff_eq]; exact (tag255 tag).2 t255
            · rw [decide_eq_false (by rintro (h | h); exact t0 h; exact t255 h), beq_eq_false_iff_ne]; exact fun h => t255 ((tag255 tag).1 h)
          rw [hb]
          exact hj
    · rw [if_neg (by omega), List.drop_eq_nil_of_le (by omega)]
      simp only [unpL, finU]
      rw [List.append_nil, if_pos ho]
theorem specUnpack_f (s : ByteArray) (hs : s.size ≤ 100000000) (k : Nat) (hk : 2 * s.size + 50 ≤ k) : spec_Unpack.f k s = some (unpV s) := by
  unfold spec_Unpack.f unpV
  have hl : s.data.toList.length = s.size := data_length s
  have := unp_l0 s.data.toList (by omega) (s.size + 1) k [] 0 (by omega) (by simp) (by omega) (by omega)
  rw [B_of, List.drop_zero] at this
  exact this
end Go.Proofs.Yteocobbddngllaa.Lem
