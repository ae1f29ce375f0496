/- What the program's Unpack answers: the plain unpacking. -/
import Derived.Test.YteocobbddngllaaLemUnp
import Derived.Test.YteocobbddngllaaStubRepeat
import Derived.Test.YteocobbddngllaaPx24
import Derived.Test.YteocobbddngllaaPx25
namespace Go.Proofs.Yteocobbddngllaa.Lem
set_option linter.unusedVariables false
set_option linter.unusedSimpArgs false
open Go Go.RowKit Go.Proofs.Yteocobbddngllaa Go.Proofs.Yteocobbddngllaa.P Go.Proofs.YteocobbddngllaaW.PrintWords Go.Proofs.YteocobbddngllaaW.PrintLast Go.Proofs.YteocobbddngllaaW.PrintMore
theorem repeat_zero (n : Nat) : Lib.repeatL [0] n = zeros n := by
  induction n with
  | zero => rfl
  | succ n ih => show [0] ++ Lib.repeatL [0] n = _; rw [ih]; rfl
theorem take_f (t : List UInt8) (bad : Bool) (n : Nat) (hn : n ≤ 100000) :
    impl_taker_take.f (B t) bad n = some (if n ≤ t.length then (B (t.take n), B (t.drop n), bad) else (B (zeros n), B t, true)) := by
  unfold impl_taker_take.f
  rw [B_size]
  by_cases h : n ≤ t.length
  · have e1 : (B t).extract 0 (n : Int).toNat = B (t.take n) := by rw [Int.toNat_natCast, B_extract, List.drop_zero]
    have e2 : (B t).extract (n : Int).toNat t.length = B (t.drop n) := by rw [Int.toNat_natCast, B_extract, List.take_of_length_le (Nat.le_refl _)]
    rw [if_neg (by omega), if_pos (by omega), if_pos (by omega), if_pos h, e1, e2]
  · rw [if_pos (by omega), if_neg h]
    unfold strings_Repeat.f
    rw [if_pos ⟨rfl, by omega, by omega⟩, Int.toNat_natCast]
    show Option.bind (some (⟨(Lib.repeatL [0] n).toArray⟩ : ByteArray)) _ = _
    rw [repeat_zero]; rfl
theorem take_nil (bad : Bool) : impl_taker_take.f (B []) bad 1 = some (B [0], B [], true) := take_f [] bad 1 (by omega)
theorem take_cons (b : UInt8) (t : List UInt8) (bad : Bool) : impl_taker_take.f (B (b :: t)) bad 1 = some (B [b], B t, bad) := by
  have h := take_f (b :: t) bad 1 (by omega)
  rw [if_pos (by rw [List.length_cons]; omega)] at h
  exact h
theorem take_yes (t : List UInt8) (bad : Bool) (n : Nat) (hn : n ≤ 100000) (h : n ≤ t.length) : impl_taker_take.f (B t) bad n = some (B (t.take n), B (t.drop n), bad) := by
  rw [take_f t bad n hn, if_pos h]
theorem take_no (t : List UInt8) (bad : Bool) (n : Nat) (hn : n ≤ 100000) (h : ¬ n ≤ t.length) : impl_taker_take.f (B t) bad n = some (B (zeros n), B t, true) := by
  rw [take_f t bad n hn, if_neg h]
theorem one_byte (m : UInt8) : bt (B [m]) 0 = (m.toNat : Int) := B_bt [m] 0
theorem eight (m : UInt8) : wrap64 (8 * wrap64 (m.toNat : Int)) = ((8 * m.toNat : Nat) : Int) := by
  have hm : m.toNat < 256 := m.toNat_lt
  rw [wrap64_id (n := (m.toNat : Int)) (by omega) (by omega), wrap64_id (by omega) (by omega)]; omega
/-- What one take hands out, when something was missing before. -/
theorem take_bad (t : List UInt8) (n : Nat) (hn : n ≤ 100000) : ∃ u t', impl_taker_take.f (B t) true n = some (B u, B t', true) ∧ u.length = n ∧ t'.length ≤ t.length := by
  rw [take_f t true n hn]
  by_cases h : n ≤ t.length
  · exact ⟨t.take n, t.drop n, by rw [if_pos h], by rw [List.length_take]; omega, by rw [List.length_drop]; omega⟩
  · exact ⟨zeros n, t, by rw [if_neg h], zeros_length n, Nat.le_refl _⟩
theorem j1_bad (k : Nat) (x : List Int) (t : List UInt8) : impl_Unpack.j1 (k + 1) x false (B t) true = some (B [], false) := by
  simp only [impl_Unpack.j1]
  rw [if_neg (by decide), if_pos trivial]; rfl
theorem l0_bad (k : Nat) (x : List Int) (t : List UInt8) (hk : 2 ≤ k) : impl_Unpack.l0 k x (B t) true = some (B [], false) := by
  obtain ⟨k, rfl⟩ : ∃ m, k = m + 1 + 1 := ⟨k - 2, by omega⟩
  simp only [impl_Unpack.l0]
  rw [if_pos trivial]
  by_cases h : (B t).toList = []
  · rw [if_pos h]; exact j1_bad k x t
  · rw [if_neg h]; exact j1_bad k x t
/-- Once something is missing, nothing is unpacked. -/
theorem l1_bad (tag : UInt8) : ∀ (d k i : Nat) (x : List Int) (t : List UInt8), i + d = 8 → d + 5 ≤ k → x.length + d ≤ 100000 →
    impl_Unpack.l1 k x (tag.toNat : Int) i (B t) true = some (B [], false) := by
  intro d
  induction d with
  | zero =>
    intro k i x t hi hk hx
    obtain ⟨k, rfl⟩ : ∃ m, k = m + 1 := ⟨k - 1, by omega⟩
    simp only [impl_Unpack.l1]
    rw [if_neg (by omega)]
    have h1 : ((1 : Nat) : Int) = 1 := rfl
    by_cases t0 : (tag.toNat : Int) = 0
    · rw [if_pos t0]
      obtain ⟨u, t1, e, hu, ht⟩ := take_bad t 1 (by omega)
      rw [h1] at e
      rw [e, Option.bind_some]
      dsimp only
      rw [if_pos (by rw [B_size, hu]; decide)]
      obtain ⟨m, rfl⟩ : ∃ m, u = [m] := by match u, hu with | [m], _ => exact ⟨m, rfl⟩
      have hm : m.toNat < 256 := m.toNat_lt
      rw [one_byte, eight, if_pos (by omega), Int.toNat_natCast, if_pos (by omega)]
      exact l0_bad k _ t1 (by omega)
    · rw [if_neg t0]
      by_cases t255 : (tag.toNat : Int) = 255
      · rw [if_pos t255]
        obtain ⟨u, t1, e, hu, ht⟩ := take_bad t 1 (by omega)
        rw [h1] at e
        rw [e, Option.bind_some]
        dsimp only
        rw [if_pos (by rw [B_size, hu]; decide)]
        obtain ⟨m, rfl⟩ : ∃ m, u = [m] := by match u, hu with | [m], _ => exact ⟨m, rfl⟩
        have hm : m.toNat < 256 := m.toNat_lt
        obtain ⟨u2, t2, e2, hu2, ht2⟩ := take_bad t1 (8 * m.toNat) (by omega)
        rw [one_byte, eight, e2, Option.bind_some]
        dsimp only
        rw [B_size, if_pos (by omega)]
        exact l0_bad k _ t2 (by omega)
      · rw [if_neg t255]
        exact l0_bad k _ t (by omega)
  | succ d ih =>
    intro k i x t hi hk hx
    obtain ⟨k, rfl⟩ : ∃ m, k = m + 1 := ⟨k - 1, by omega⟩
    simp only [impl_Unpack.l1]
    have e2 : wrap64 ((i : Int) + 1) = ((i + 1 : Nat) : Int) := by rw [wrap64_id (by omega) (by omega)]; omega
    rw [if_pos (by omega), if_pos (by omega), e2]
    by_cases hb : bitB tag i = true
    · rw [if_pos ((bitB_u8 tag i (by omega)).2 hb)]
      obtain ⟨u, t1, e, hu, ht⟩ := take_bad t 1 (by omega)
      have h1 : ((1 : Nat) : Int) = 1 := rfl
      rw [h1] at e
      rw [e, Option.bind_some]
      dsimp only
      rw [B_size, if_pos (by omega)]
      exact ih k (i + 1) _ t1 (by omega) (by omega) (by rw [List.length_append, B_nums, nums_length, hu]; omega)
    · rw [if_neg (fun h => hb ((bitB_u8 tag i (by omega)).1 h)), if_pos (by omega)]
      exact ih k (i + 1) _ t (by omega) (by omega) (by rw [List.length_append, List.length_singleton]; omega)
/-- A word, bit by bit. -/
theorem l1_word (tag : UInt8) : ∀ (d k i : Nat) (o t : List UInt8), i + d = 8 → 20 ≤ k → o.length + d ≤ 10000 →
    impl_Unpack.l1 (k + d) (nums o) (tag.toNat : Int) i (B t) false = match takeW tag d t with
      | some (w, j) => impl_Unpack.l1 k (nums (o ++ w)) (tag.toNat : Int) 8 (B (t.drop j)) false
      | none => some (B [], false) := by
  intro d
  induction d with
  | zero =>
    intro k i o t hi hk ho
    obtain rfl : i = 8 := by omega
    simp only [takeW, List.append_nil, List.drop_zero]
    rfl
  | succ d ih =>
    intro k i o t hi hk ho
    show impl_Unpack.l1 ((k + d) + 1) _ _ _ _ _ = _
    simp only [impl_Unpack.l1, takeW]
    have e2 : wrap64 ((i : Int) + 1) = ((i + 1 : Nat) : Int) := by rw [wrap64_id (by omega) (by omega)]; omega
    have e7 : 7 - d = i := by omega
    rw [if_pos (by omega), if_pos (by omega), e2, e7]
    by_cases hb : bitB tag i = true
    · rw [if_pos ((bitB_u8 tag i (by omega)).2 hb), if_pos hb]
      cases t with
      | nil =>
        rw [take_nil, Option.bind_some]
        dsimp only
        rw [nums_length, B_size, List.length_singleton, if_pos (by omega)]
        exact l1_bad tag d (k + d) (i + 1) _ [] (by omega) (by omega) (by rw [List.length_append, B_nums, nums_length, nums_length, List.length_singleton]; omega)
      | cons b t =>
        rw [take_cons, Option.bind_some]
        dsimp only
        rw [nums_length, B_size, List.length_singleton, if_pos (by omega), B_nums, ← nums_append, ih k (i + 1) (o ++ [b]) t (by omega) hk (by rw [List.length_append, List.length_singleton]; omega)]
        cases takeW tag d t with
        | none => rfl
        | some p =>
          obtain ⟨w, j⟩ := p
          simp only [Option.map_some, List.append_assoc, List.singleton_append, List.drop_succ_cons]
    · rw [if_neg (fun h => hb ((bitB_u8 tag i (by omega)).1 h)), if_neg hb, nums_length, if_pos (by omega)]
      have hna : nums o ++ [(0 : Int)] = nums (o ++ [0]) := by rw [nums_append]; rfl
      rw [hna, ih k (i + 1) (o ++ [0]) t (by omega) hk (by rw [List.length_append, List.length_singleton]; omega)]
      cases takeW tag d t with
      | none => rfl
      | some p =>
        obtain ⟨w, j⟩ := p
        simp only [Option.map_some, List.append_assoc, List.singleton_append]
/-- What stands behind a word. -/
theorem l1_after (tag : UInt8) (k : Nat) (o t : List UInt8) (hk : 20 ≤ k) (ho : o.length ≤ 2000) (rec : List UInt8 → Option (List UInt8))
    (ih : ∀ (o2 t2 : List UInt8), o2.length ≤ 10000 → t2.length ≤ t.length → impl_Unpack.l0 k (nums o2) (B t2) false = some (finU o2 (rec t2))) :
    impl_Unpack.l1 (k + 1) (nums o) (tag.toNat : Int) 8 (B t) false = some (finU o (afterW tag t rec)) := by
  simp only [impl_Unpack.l1]
  rw [if_neg (by decide)]
  unfold afterW
  by_cases t0 : tag = 0
  · rw [if_pos ((tag0 tag).2 t0), if_pos t0]
    cases t with
    | nil =>
      rw [take_nil, Option.bind_some]
      dsimp only
      rw [B_size, if_pos (by simp), one_byte, eight, if_pos (by omega), Int.toNat_natCast, nums_length, if_pos (by have : (0 : UInt8).toNat = 0 := rfl; omega)]
      exact l0_bad k _ [] (by omega)
    | cons m t =>
      rw [take_cons, Option.bind_some]
      dsimp only
      have hm : m.toNat < 256 := m.toNat_lt
      rw [B_size, if_pos (by simp), one_byte, eight, if_pos (by omega), Int.toNat_natCast, nums_length, if_pos (by omega), finU_map]
      have hna : nums o ++ List.replicate (8 * m.toNat) (0 : Int) = nums (o ++ zeros (8 * m.toNat)) := by
        rw [nums_append]; congr 1; unfold nums zeros; rw [List.map_replicate]; rfl
      rw [hna]
      exact ih _ t (by rw [List.length_append, zeros_length]; omega) (by rw [List.length_cons]; omega)
  · rw [if_neg (fun h => t0 ((tag0 tag).1 h)), if_neg t0]
    by_cases t255 : tag = 255
    · rw [if_pos ((tag255 tag).2 t255), if_pos t255]
      cases t with
      | nil =>
        rw [take_nil, Option.bind_some]
        dsimp only
        obtain ⟨u2, t2, e2, hu2, ht2⟩ := take_bad [] (8 * (0 : UInt8).toNat) (by decide)
        rw [B_size, if_pos (by simp), one_byte, eight, e2, Option.bind_some]
        dsimp only
        rw [nums_length, B_size, hu2, if_pos (by have : (0 : UInt8).toNat = 0 := rfl; omega)]
        exact l0_bad k _ _ (by omega)
      | cons m t =>
        rw [take_cons, Option.bind_some]
        dsimp only
        have hm : m.toNat < 256 := m.toNat_lt
        rw [B_size, if_pos (by simp), one_byte, eight]
        by_cases hl : 8 * m.toNat ≤ t.length
        · rw [take_yes t false _ (by omega) hl, Option.bind_some, if_pos hl]
          dsimp only
          rw [nums_length, B_size, List.length_take, if_pos (by omega), B_nums, ← nums_append, finU_map]
          exact ih _ _ (by rw [List.length_append, List.length_take]; omega) (by rw [List.length_drop, List.length_cons]; omega)
        · rw [take_no t false _ (by omega) hl, Option.bind_some, if_neg hl]
          dsimp only
          rw [nums_length, B_size, zeros_length, if_pos (by omega)]
          exact l0_bad k _ _ (by omega)
    · rw [if_neg (fun h => t255 ((tag255 tag).1 h)), if_neg t255]
      exact ih o t (by omega) (Nat.le_refl _)
theorem unpI_l0 : ∀ (n k : Nat) (o t : List UInt8), 12 * n + 40 ≤ k → o.length ≤ 10000 → t.length < n →
    impl_Unpack.l0 k (nums o) (B t) false = some (finU o (unpL n t)) := by
  intro n
  induction n with
  | zero => intro k o t _ _ h; omega
  | succ n ih =>
    intro k o t hk ho hn
    obtain ⟨k, rfl⟩ : ∃ m, k = m + 1 + 8 + 1 + 1 := ⟨k - 11, by omega⟩
    simp only [impl_Unpack.l0]
    rw [B_toList]
    have out : ∀ z, t = [] ∨ 1600 < o.length → z = finU o (unpL (n + 1) t) → impl_Unpack.j1 (k + 1 + 8 + 1) (nums o) false (B t) false = some z := by
      intro z h hz
      simp only [impl_Unpack.j1]
      rw [if_neg (by decide), if_neg (by decide), nums_length]
      by_cases hl : 1600 < o.length
      · rw [if_pos (by omega), hz, finU_long _ hl]; rfl
      · rw [if_neg (by omega)]
        rcases h with rfl | h
        · rw [hz]; simp only [unpL, finU]; rw [List.append_nil, if_pos (by omega), B_strOf]
        · exact absurd h hl
    cases t with
    | nil => rw [if_pos rfl]; exact out _ (Or.inl rfl) rfl
    | cons tag t =>
      rw [if_neg (by simp), if_neg (by decide), nums_length]
      by_cases hl : 1600 < o.length
      · rw [decide_eq_false (by omega)]; exact out _ (Or.inr hl) rfl
      · rw [decide_eq_true (by omega)]
        simp only [impl_Unpack.j1, unpL]
        rw [if_pos trivial, take_cons, Option.bind_some]
        dsimp only
        rw [B_size, if_pos (by simp), one_byte]
        have hw := l1_word tag 8 (k + 1) 0 o t (by omega) (by omega) (by omega)
        have h0 : ((0 : Nat) : Int) = 0 := rfl
        rw [h0] at hw
        rw [hw]
        cases hT : takeW tag 8 t with
        | none => rfl
        | some p =>
          obtain ⟨w, j⟩ := p
          obtain ⟨z1, z2, z3⟩ := takeW_len tag 8 t w j hT
          dsimp only
          rw [finU_map]
          rw [List.length_cons] at hn
          exact l1_after tag k (o ++ w) (t.drop j) (by omega) (by rw [List.length_append]; omega) (unpL n) (fun o2 t2 h1 h2 => ih k o2 t2 (by omega) h1 (by rw [List.length_drop] at h2; omega))
theorem implUnpack_f (s : ByteArray) (k : Nat) (hk : 12 * s.size + 60 ≤ k) : impl_Unpack.f k s = some (unpV s) := by
  unfold impl_Unpack.f unpV
  have hl : s.data.toList.length = s.size := data_length s
  have := unpI_l0 (s.size + 1) k [] s.data.toList (by omega) (by simp) (by omega)
  rw [B_of] at this
  exact this
end Go.Proofs.Yteocobbddngllaa.Lem
