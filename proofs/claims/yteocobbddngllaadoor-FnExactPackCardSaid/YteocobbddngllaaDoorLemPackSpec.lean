/- What the reference's Pack answers: the plain packing. -/
import Derived.Test.YteocobbddngllaaDoorLemPack
import Derived.Test.YteocobbddngllaaDoorLemGet2
import Derived.Test.YteocobbddngllaaDoorPx1
import Derived.Test.YteocobbddngllaaDoorPx2
import Derived.Test.YteocobbddngllaaDoorPx3
import Derived.Test.YteocobbddngllaaDoorPx4
import Derived.Test.YteocobbddngllaaDoorPx5
namespace Go.Proofs.YteocobbddngllaaDoor.Lem
set_option linter.unusedVariables false
set_option linter.unusedSimpArgs false
open Go Go.RowKit Go.Proofs.YteocobbddngllaaDoor.P Go.Proofs.YteocobbddngllaaDoorW.PrintWords Go.Proofs.YteocobbddngllaaDoorW.PrintLast Go.Proofs.YteocobbddngllaaDoorW.PrintMore
theorem or_tagS : ∀ (x : Fin 256) (i : Fin 8), x.1 < 2 ^ i.1 → Go.bits .or .i64 ((x.1 : Nat) : Int) (shl .i64 1 ((i.1 : Nat) : Int)) = ((x.1 + 2 ^ i.1 : Nat) : Int) := by decide +kernel
theorem byte_at (t : List UInt8) (i : Nat) (h : i < t.length) : bt (B t) (i : Int) = ((t[i]).toNat : Int) ∧ t.drop i = t[i] :: t.drop (i + 1) := by
  refine ⟨?_, List.drop_eq_getElem_cons h⟩
  rw [B_bt, List.getD_eq_getElem?_getD, List.getElem?_eq_getElem h]; rfl
theorem zero_iff (c : UInt8) : ((c.toNat : Int) = 0) ↔ c = 0 := tag0 c
theorem l3Tag_l0 (wd : List UInt8) (hw : wd.length = 8) : ∀ (d k i x : Nat), i + d = 8 → d < k → x < 2 ^ i → spec_l3Tag.l0 k (B wd) x i = some ((x + tagL (wd.drop i) i : Nat) : Int) := by
  intro d
  induction d with
  | zero =>
    intro k i x hi hk hx
    obtain ⟨k, rfl⟩ : ∃ m, k = m + 1 := ⟨k - 1, by omega⟩
    simp only [spec_l3Tag.l0]
    rw [if_neg (by omega), List.drop_eq_nil_of_le (by omega)]; rfl
  | succ d ih =>
    intro k i x hi hk hx
    obtain ⟨k, rfl⟩ : ∃ m, k = m + 1 := ⟨k - 1, by omega⟩
    simp only [spec_l3Tag.l0]
    obtain ⟨hb, hd⟩ := byte_at wd i (by omega)
    have e2 : wrap64 ((i : Int) + 1) = ((i + 1 : Nat) : Int) := by rw [wrap64_id (by omega) (by omega)]; omega
    rw [B_size, if_pos (by omega), if_pos (by omega), if_pos (by omega), hb, e2, hd]
    simp only [tagL]
    by_cases hc : wd[i] = 0
    · rw [if_pos ((zero_iff _).2 hc), if_pos hc, ih k (i + 1) x (by omega) (by omega) (by rw [Nat.pow_succ]; omega), Nat.zero_add]
    · rw [if_neg (fun h => hc ((zero_iff _).1 h)), if_neg hc, or_tagS ⟨x, Nat.lt_of_lt_of_le hx (Nat.pow_le_pow_right (by decide) (by omega : i ≤ 8))⟩ ⟨i, by omega⟩ hx, ih k (i + 1) _ (by omega) (by omega) (by rw [Nat.pow_succ]; dsimp only; omega)]
      congr 2; dsimp only; omega
theorem l3Tag_f (wd : List UInt8) (hw : wd.length = 8) (k : Nat) (hk : 8 < k) : spec_l3Tag.f k (B wd) = some ((tagL wd 0 : Nat) : Int) := by
  unfold spec_l3Tag.f
  have := l3Tag_l0 wd hw 8 k 0 0 (by omega) hk (by decide)
  rw [List.drop_zero, Nat.zero_add] at this
  exact this
theorem l3Few_l0 (wd : List UInt8) (hw : wd.length = 8) : ∀ (d k i x : Nat), i + d = 8 → d < k → x ≤ i → spec_l3Few.l0 k (B wd) x i = some (decide (1 < x + (wd.drop i).count 0)) := by
  intro d
  induction d with
  | zero =>
    intro k i x hi hk hx
    obtain ⟨k, rfl⟩ : ∃ m, k = m + 1 := ⟨k - 1, by omega⟩
    simp only [spec_l3Few.l0]
    rw [if_neg (by omega), List.drop_eq_nil_of_le (by omega)]
    congr 1
    rw [decide_eq_decide, List.count_nil]; omega
  | succ d ih =>
    intro k i x hi hk hx
    obtain ⟨k, rfl⟩ : ∃ m, k = m + 1 := ⟨k - 1, by omega⟩
    simp only [spec_l3Few.l0]
    obtain ⟨hb, hd⟩ := byte_at wd i (by omega)
    have e2 : wrap64 ((i : Int) + 1) = ((i + 1 : Nat) : Int) := by rw [wrap64_id (by omega) (by omega)]; omega
    have e3 : wrap64 ((x : Int) + 1) = ((x + 1 : Nat) : Int) := by rw [wrap64_id (by omega) (by omega)]; omega
    rw [B_size, if_pos (by omega), if_pos (by omega), if_pos (by omega), hb, e2, e3, hd]
    by_cases hc : wd[i] = 0
    · rw [if_pos ((zero_iff _).2 hc), hc, List.count_cons_self]
      rw [ih k (i + 1) (x + 1) (by omega) (by omega) (by omega)]; congr 1; rw [decide_eq_decide]; omega
    · rw [if_neg (fun h => hc ((zero_iff _).1 h)), List.count_cons_of_ne (by exact hc), ih k (i + 1) x (by omega) (by omega) (by omega)]
theorem l3Few_f (wd : List UInt8) (hw : wd.length = 8) (k : Nat) (hk : 8 < k) : spec_l3Few.f k (B wd) = some (!(fewW wd)) := by
  unfold spec_l3Few.f
  have := l3Few_l0 wd hw 8 k 0 0 (by omega) hk (by omega)
  rw [List.drop_zero, Nat.zero_add] at this
  refine this.trans ?_
  congr 1
  unfold fewW
  by_cases h : wd.count 0 ≤ 1
  · rw [decide_eq_true h, decide_eq_false (by omega)]; rfl
  · rw [decide_eq_false h, decide_eq_true (by omega)]; rfl
theorem l1Zero_l0 (wd : List UInt8) (hl : wd.length ≤ 1000000) : ∀ (d k i : Nat), i + d = wd.length → d < k → spec_l1Zero.l0 k (B wd) i = some ((wd.drop i).all fun c => c == 0) := by
  intro d
  induction d with
  | zero =>
    intro k i hi hk
    obtain ⟨k, rfl⟩ : ∃ m, k = m + 1 := ⟨k - 1, by omega⟩
    simp only [spec_l1Zero.l0]
    rw [B_size, if_neg (by omega), List.drop_eq_nil_of_le (by omega)]; rfl
  | succ d ih =>
    intro k i hi hk
    obtain ⟨k, rfl⟩ : ∃ m, k = m + 1 := ⟨k - 1, by omega⟩
    simp only [spec_l1Zero.l0]
    obtain ⟨hb, hd⟩ := byte_at wd i (by omega)
    have e2 : wrap64 ((i : Int) + 1) = ((i + 1 : Nat) : Int) := by rw [wrap64_id (by omega) (by omega)]; omega
    rw [B_size, if_pos (by omega), if_pos (by omega), hb, e2, hd, List.all_cons]
    by_cases hc : wd[i] = 0
    · rw [if_pos ((zero_iff _).2 hc), ih k (i + 1) (by omega) (by omega), hc]; rfl
    · rw [if_neg (fun h => hc ((zero_iff _).1 h))]
      have : (wd[i] == 0) = false := by rw [beq_eq_false_iff_ne]; exact hc
      rw [this]; rfl
theorem l1Zero_f (wd : List UInt8) (hl : wd.length ≤ 1000000) (k : Nat) (hk : wd.length < k) : spec_l1Zero.f k (B wd) = some (wd.all fun c => c == 0) := by
  unfold spec_l1Zero.f
  have := l1Zero_l0 wd hl wd.length k 0 (by omega) hk
  rw [List.drop_zero] at this
  exact this
theorem zeroW_all (wd : List UInt8) (hw : wd.length = 8) : (wd.all fun c => c == 0) = zeroW wd := by
  unfold zeroW
  by_cases h : wd.count 0 = 8
  · rw [decide_eq_true h, List.all_eq_true]
    intro c hc
    have := (List.count_eq_length.1 (h.trans hw.symm)) c hc
    rw [beq_iff_eq]; exact this.symm
  · rw [decide_eq_false h]
    rw [Bool.eq_false_iff]
    intro ha
    rw [List.all_eq_true] at ha
    exact h (by rw [← hw]; exact List.count_eq_length.2 (fun c hc => (beq_iff_eq.1 (ha c hc)).symm))
theorem one_num (n : Nat) : strOfNums [(n : Int) % 256] = B [UInt8.ofNat n] := by
  unfold strOfNums B
  congr 2
  simp only [List.map_cons, List.map_nil]
  congr 1
  apply UInt8.toNat_inj.1
  rw [UInt8.toNat_ofNat', UInt8.toNat_ofNat']; omega
/-- The bytes of a word that are not 0, one by one. -/
theorem l3_l1 (s wd : List UInt8) (hw : wd.length = 8) (tag p : Int) : ∀ (d K i : Nat) (o : List UInt8), i + d = 8 → o.length + d ≤ 1000000000 →
    spec_l3Pack.l1 (K + d) (B s) (B o) p (B wd) tag i = spec_l3Pack.l1 K (B s) (B (o ++ (wd.drop i).filter notZero)) p (B wd) tag 8 := by
  intro d
  induction d with
  | zero =>
    intro K i o hi ho
    obtain rfl : i = 8 := by omega
    rw [List.drop_eq_nil_of_le (by omega), List.filter_nil, List.append_nil]; rfl
  | succ d ih =>
    intro K i o hi ho
    show spec_l3Pack.l1 ((K + d) + 1) _ _ _ _ _ _ = _
    simp only [spec_l3Pack.l1]
    obtain ⟨hb, hd⟩ := byte_at wd i (by omega)
    have e2 : wrap64 ((i : Int) + 1) = ((i + 1 : Nat) : Int) := by rw [wrap64_id (by omega) (by omega)]; omega
    rw [B_size, B_size, if_pos (by omega), if_pos (by omega), if_pos (by omega), hb, e2, hd]
    by_cases hc : wd[i] = 0
    · rw [if_pos ((zero_iff _).2 hc), List.filter_cons_of_neg (by rw [hc]; decide)]
      exact ih K (i + 1) o (by omega) (by omega)
    · have hx : (B wd).extract (i : Int).toNat ((i + 1 : Nat) : Int).toNat = B [wd[i]] := by
        rw [Int.toNat_natCast, Int.toNat_natCast, B_extract, List.drop_take, hd]
        have : i + 1 - i = 1 := by omega
        rw [this]; rfl
      rw [if_neg (fun h => hc ((zero_iff _).1 h)), List.filter_cons_of_pos (by unfold notZero; simpa using hc), if_pos (by omega), if_pos (by omega), hx, if_pos (by rw [B_size]; simp; omega), B_append]
      rw [ih K (i + 1) (o ++ [wd[i]]) (by omega) (by rw [List.length_append, List.length_singleton]; omega), List.append_assoc]; rfl
theorem wrapN {a : Int} (m : Nat) (h : a = m) (hm : m ≤ 1000000000) : wrap64 a = (m : Int) := by rw [wrap64_id (by omega) (by omega)]; exact h
theorem offs (p n : Nat) (hp : p ≤ 100000) (hn : n ≤ 255) : wrap64 ((n : Int) + 1) = ((n + 1 : Nat) : Int) ∧ wrap64 (8 * ((n + 1 : Nat) : Int)) = ((8 * (n + 1) : Nat) : Int) ∧ wrap64 ((p : Int) + ((8 * (n + 1) : Nat) : Int)) = ((p + 8 * (n + 1) : Nat) : Int) ∧
    wrap64 ((n : Int) + 2) = ((n + 2 : Nat) : Int) ∧ wrap64 (8 * ((n + 2 : Nat) : Int)) = ((8 * (n + 2) : Nat) : Int) ∧ wrap64 ((p : Int) + ((8 * (n + 2) : Nat) : Int)) = ((p + 8 * (n + 2) : Nat) : Int) :=
  ⟨wrapN _ (by omega) (by omega), wrapN _ (by omega) (by omega), wrapN _ (by omega) (by omega), wrapN _ (by omega) (by omega), wrapN _ (by omega) (by omega), wrapN _ (by omega) (by omega)⟩
theorem offs2 (p n : Nat) (hp : p ≤ 100000) (hn : n ≤ 255) : wrap64 ((n : Int) + 1) = ((n + 1 : Nat) : Int) ∧ wrap64 (8 * ((n + 1 : Nat) : Int)) = ((8 * (n + 1) : Nat) : Int) ∧ wrap64 ((p : Int) + ((8 * (n + 1) : Nat) : Int)) = ((p + 8 * (n + 1) : Nat) : Int) ∧
    wrap64 ((p : Int) + 8) = ((p + 8 : Nat) : Int) ∧ wrap64 (8 * (n : Int)) = ((8 * n : Nat) : Int) ∧ wrap64 ((p : Int) + ((8 * n : Nat) : Int)) = ((p + 8 * n : Nat) : Int) ∧ wrap64 (((p + 8 * n : Nat) : Int) + 8) = ((p + 8 * n + 8 : Nat) : Int) :=
  ⟨wrapN _ (by omega) (by omega), wrapN _ (by omega) (by omega), wrapN _ (by omega) (by omega), wrapN _ (by omega) (by omega), wrapN _ (by omega) (by omega), wrapN _ (by omega) (by omega), wrapN _ (by omega) (by omega)⟩
theorem fol_step (p : List UInt8 → Bool) (n : Nat) (t : List UInt8) : folL p (n + 1) t = if 8 ≤ t.length then (if p (t.take 8) = true then 1 + folL p n (t.drop 8) else 0) else 0 := rfl
/-- Words of noughts are counted. -/
theorem l3_l2 (s o : List UInt8) (tag : Int) (p : Nat) (hs : s.length % 8 = 0) (hl : s.length ≤ 100000) (hp : p % 8 = 0) (hp2 : p + 8 ≤ s.length) (ho : o.length ≤ 1000000000) (K0 : Nat) (hK : 20 ≤ K0) : ∀ (d K n : Nat), n + d = 255 → d + 2 + K0 ≤ K →
    ∃ K', K0 ≤ K' ∧ spec_l3Pack.l2 K (B s) (B o) p tag n = spec_l3Pack.j3 K' (B s) (B (o ++ [UInt8.ofNat (n + folL zeroW d ((s.drop (p + 8)).drop (8 * n)))])) p tag ((n + folL zeroW d ((s.drop (p + 8)).drop (8 * n)) : Nat) : Int) := by
  intro d
  induction d with
  | zero =>
    intro K n hn hKK
    obtain ⟨K, rfl⟩ : ∃ m, K = m + 1 := ⟨K - 1, by omega⟩
    refine ⟨K, by omega, ?_⟩
    simp only [spec_l3Pack.l2]
    rw [if_neg (by omega), Option.bind_some, one_num, if_pos (by rw [B_size, B_size]; simp; omega), B_append]
    rfl
  | succ d ih =>
    intro K n hn hKK
    obtain ⟨K, rfl⟩ : ∃ m, K = m + 1 := ⟨K - 1, by omega⟩
    simp only [spec_l3Pack.l2]
    obtain ⟨e1, e2, e3, e4, e5, e6⟩ := offs p n (by omega) (by omega)
    rw [e1, e2, e3, e4, e5, e6]
    clear e1 e2 e3 e4 e5 e6
    rw [if_pos (by omega), B_size, fol_step, List.length_drop, List.length_drop]
    by_cases hlt : p + 8 * (n + 1) < s.length
    · have hx : (B s).extract ((p + 8 * (n + 1) : Nat) : Int).toNat ((p + 8 * (n + 2) : Nat) : Int).toNat = B (((s.drop (p + 8)).drop (8 * n)).take 8) := by
        rw [Int.toNat_natCast, Int.toNat_natCast, B_extract, List.drop_take, List.drop_drop]
        congr 2
        · omega
        · congr 1; omega
      have hwl : (((s.drop (p + 8)).drop (8 * n)).take 8).length = 8 := by rw [List.length_take, List.length_drop, List.length_drop]; omega
      rw [if_pos (by omega), if_pos (by omega), if_pos (by omega), if_pos (by omega), hx, l1Zero_f _ (by omega) K (by omega), zeroW_all _ hwl, Option.bind_some, if_pos (show 8 ≤ s.length - (p + 8) - 8 * n by omega)]
      by_cases hz : zeroW (((s.drop (p + 8)).drop (8 * n)).take 8) = true
      · rw [if_pos hz, if_pos hz]
        obtain ⟨K', h1, h2⟩ := ih K (n + 1) (by omega) (by omega)
        refine ⟨K', h1, h2.trans ?_⟩
        have ed : ((s.drop (p + 8)).drop (8 * n)).drop 8 = (s.drop (p + 8)).drop (8 * (n + 1)) := by rw [List.drop_drop]; congr 1
        rw [ed]
        have en : n + 1 + folL zeroW d ((s.drop (p + 8)).drop (8 * (n + 1))) = n + (1 + folL zeroW d ((s.drop (p + 8)).drop (8 * (n + 1)))) := by omega
        rw [en]
      · rw [if_neg hz, if_neg hz]
        refine ⟨K, by omega, ?_⟩
        rw [Option.bind_some, one_num, if_pos (by rw [B_size, B_size]; simp; omega), B_append]
        rfl
    · rw [if_neg (by omega), if_neg (show ¬ 8 ≤ s.length - (p + 8) - 8 * n by omega)]
      refine ⟨K, by omega, ?_⟩
      rw [Option.bind_some, one_num, if_pos (by rw [B_size, B_size]; simp; omega), B_append]
      rfl
/-- Words that have one nought at the most are counted, and written as they are. -/
theorem l3_l3 (s o : List UInt8) (p : Nat) (hs : s.length % 8 = 0) (hl : s.length ≤ 100000) (hp : p % 8 = 0) (hp2 : p + 8 ≤ s.length) (ho : o.length ≤ 1000000000) (K0 : Nat) (hK : 20 ≤ K0) : ∀ (d K n : Nat), n + d = 255 → d + 2 + K0 ≤ K → p + 8 + 8 * n ≤ s.length →
    ∃ K', K0 ≤ K' ∧ spec_l3Pack.l3 K (B s) (B o) p n = spec_l3Pack.l0 K' (B s) (B (o ++ [UInt8.ofNat (n + folL fewW d ((s.drop (p + 8)).drop (8 * n)))] ++ (s.drop (p + 8)).take (8 * (n + folL fewW d ((s.drop (p + 8)).drop (8 * n)))))) ((p + 8 * (n + folL fewW d ((s.drop (p + 8)).drop (8 * n))) + 8 : Nat) : Int) := by
  intro d
  have fin : ∀ (K n : Nat), K0 ≤ K → n ≤ 255 → p + 8 + 8 * n ≤ s.length →
      ((some (([(n : Int) % 256] : List Int) : List Int)).bind fun y122 => (if (B o).size + (strOfNums y122).size ≤ 9223372036854775807 then (if 0 ≤ (wrap64 ((p : Int) + 8)) then (if (wrap64 ((p : Int) + 8)) ≤ (wrap64 ((p : Int) + (wrap64 (8 * (wrap64 ((n : Int) + 1)))))) then (if (wrap64 ((p : Int) + (wrap64 (8 * (wrap64 ((n : Int) + 1)))))) ≤ ((B s).size : Int) then (if (B o ++ (strOfNums y122)).size + ((B s).extract ((wrap64 ((p : Int) + 8)) : Int).toNat ((wrap64 ((p : Int) + (wrap64 (8 * (wrap64 ((n : Int) + 1)))))) : Int).toNat).size ≤ 9223372036854775807 then (spec_l3Pack.l0 K (B s) ((B o ++ (strOfNums y122)) ++ ((B s).extract ((wrap64 ((p : Int) + 8)) : Int).toNat ((wrap64 ((p : Int) + (wrap64 (8 * (wrap64 ((n : Int) + 1)))))) : Int).toNat)) (wrap64 ((wrap64 ((p : Int) + (wrap64 (8 * (n : Int))))) + 8))) else (none)) else (none)) else (none)) else (none)) else (none)))
      = spec_l3Pack.l0 K (B s) (B (o ++ [UInt8.ofNat n] ++ (s.drop (p + 8)).take (8 * n))) ((p + 8 * n + 8 : Nat) : Int) := by
    intro K n hKK hn hle
    have hx : (B s).extract ((p + 8 : Nat) : Int).toNat ((p + 8 * (n + 1) : Nat) : Int).toNat = B ((s.drop (p + 8)).take (8 * n)) := by
      rw [Int.toNat_natCast, Int.toNat_natCast, B_extract, List.drop_take]; congr 2; omega
    have hxl : ((s.drop (p + 8)).take (8 * n)).length ≤ 3000 := by rw [List.length_take]; omega
    obtain ⟨e1, e2, e3, e4, e5, e6, e7⟩ := offs2 p n (by omega) (by omega)
    rw [Option.bind_some, e1, e2, e3, e4, e5, e6, e7]
    clear e1 e2 e3 e4 e5 e6 e7
    rw [hx, one_num, B_append, B_append, B_size, B_size, B_size, B_size, B_size]
    rw [if_pos (by simp; omega), if_pos (by omega), if_pos (by omega), if_pos (by omega), if_pos (by rw [List.length_append]; simp only [List.length_singleton]; omega)]
  induction d with
  | zero =>
    intro K n hn hKK hle
    obtain ⟨K, rfl⟩ : ∃ m, K = m + 1 := ⟨K - 1, by omega⟩
    refine ⟨K, by omega, ?_⟩
    simp only [spec_l3Pack.l3]
    rw [if_neg (by omega), fin K n (by omega) (by omega) hle]
    rfl
  | succ d ih =>
    intro K n hn hKK hle
    obtain ⟨K, rfl⟩ : ∃ m, K = m + 1 := ⟨K - 1, by omega⟩
    simp only [spec_l3Pack.l3]
    have fn := fin K n (by omega) (by omega) hle
    rw [if_pos (by omega), fn, fol_step, List.length_drop, List.length_drop]
    clear fn fin
    obtain ⟨e1, e2, e3, e4, e5, e6⟩ := offs p n (by omega) (by omega)
    rw [e1, e2, e3, e4, e5, e6, B_size]
    clear e1 e2 e3 e4 e5 e6
    by_cases hlt : p + 8 * (n + 1) < s.length
    · have hx : (B s).extract ((p + 8 * (n + 1) : Nat) : Int).toNat ((p + 8 * (n + 2) : Nat) : Int).toNat = B (((s.drop (p + 8)).drop (8 * n)).take 8) := by
        rw [Int.toNat_natCast, Int.toNat_natCast, B_extract, List.drop_take, List.drop_drop]
        congr 2
        · omega
        · congr 1; omega
      have hwl : (((s.drop (p + 8)).drop (8 * n)).take 8).length = 8 := by rw [List.length_take, List.length_drop, List.length_drop]; omega
      rw [if_pos (by omega), if_pos (by omega), if_pos (by omega), if_pos (by omega), hx, l3Few_f _ hwl K (by omega), Option.bind_some, if_pos (show 8 ≤ s.length - (p + 8) - 8 * n by omega)]
      by_cases hz : fewW (((s.drop (p + 8)).drop (8 * n)).take 8) = true
      · rw [if_neg (by rw [hz]; decide), if_pos hz]
        obtain ⟨K', h1, h2⟩ := ih K (n + 1) (by omega) (by omega) (by omega)
        refine ⟨K', h1, h2.trans ?_⟩
        have ed : ((s.drop (p + 8)).drop (8 * n)).drop 8 = (s.drop (p + 8)).drop (8 * (n + 1)) := by rw [List.drop_drop]; congr 1
        rw [ed]
        have en : n + 1 + folL fewW d ((s.drop (p + 8)).drop (8 * (n + 1))) = n + (1 + folL fewW d ((s.drop (p + 8)).drop (8 * (n + 1)))) := by omega
        rw [en]
      · have hz' : fewW (((s.drop (p + 8)).drop (8 * n)).take 8) = false := by simpa using hz
        rw [if_pos (by rw [hz']; rfl), if_neg hz]
        exact ⟨K, by omega, rfl⟩
    · rw [if_neg (by omega), if_neg (show ¬ 8 ≤ s.length - (p + 8) - 8 * n by omega)]
      exact ⟨K, by omega, rfl⟩
theorem tag_fact {n : Nat} (h : n < 256) : ((n : Int) % 256 = n) := by omega
theorem l3_l0 (s : List UInt8) (hs : s.length % 8 = 0) (hl : s.length ≤ 100000) : ∀ (n K p : Nat) (o : List UInt8), 600 * n + 60 ≤ K → p % 8 = 0 → p ≤ s.length → s.length - p < n → o.length + 2100 * n ≤ 300000000 →
    spec_l3Pack.l0 K (B s) (B o) p = some (B (o ++ packL n (s.drop p))) := by
  intro n
  induction n with
  | zero => intro K p o _ _ _ h; omega
  | succ n ih =>
    intro K p o hK hp hp2 hn ho
    obtain ⟨K, rfl⟩ : ∃ m, K = m + 1 := ⟨K - 1, by omega⟩
    simp only [spec_l3Pack.l0]
    rw [B_size]
    by_cases hlt : p < s.length
    · have ht : ¬ s.drop p = [] := by
        intro h
        have := congrArg List.length h
        rw [List.length_drop] at this
        have h0 : ([] : List UInt8).length = 0 := rfl
        omega
      have e1 : wrap64 ((p : Int) + 8) = ((p + 8 : Nat) : Int) := wrapN _ (by omega) (by omega)
      rw [e1]
      clear e1
      have hx : (B s).extract (p : Int).toNat ((p + 8 : Nat) : Int).toNat = B ((s.drop p).take 8) := by
        rw [Int.toNat_natCast, Int.toNat_natCast, B_extract, List.drop_take]; congr 2; omega
      have hwl : ((s.drop p).take 8).length = 8 := by rw [List.length_take, List.length_drop]; omega
      have hdd : (s.drop p).drop 8 = s.drop (p + 8) := by rw [List.drop_drop]
      rw [if_pos (by omega), if_pos (by omega), if_pos (by omega), if_pos (by omega), hx, l3Tag_f _ hwl K (by omega), Option.bind_some, Option.bind_some, one_num]
      unfold packL
      rw [if_neg ht, hdd]
      generalize (s.drop p).take 8 = wd at *
      have hT : tagL wd 0 < 256 := by have := tagL_lt wd 0; rw [hwl] at this; omega
      have hfl : (wd.filter notZero).length ≤ 8 := by rw [← hwl]; exact List.length_filter_le _ _
      generalize hf : wd.filter notZero = ft at *
      rw [if_pos (by rw [B_size, B_size]; simp; omega), B_append]
      obtain ⟨K, rfl⟩ : ∃ m, K = m + 1 + 8 := ⟨K - 9, by omega⟩
      have h1 := l3_l1 s wd hwl ((tagL wd 0 : Nat) : Int) p 8 (K + 1) 0 (o ++ [UInt8.ofNat (tagL wd 0)]) (by omega) (by rw [List.length_append]; simp; omega)
      rw [List.drop_zero, hf] at h1
      have h0 : ((0 : Nat) : Int) = 0 := rfl
      rw [h0] at h1
      rw [h1]
      clear h1 hx
      simp only [spec_l3Pack.l1]
      rw [if_neg (by decide)]
      generalize tagL wd 0 = tg at *
      have hz := folL_le zeroW 255 (s.drop (p + 8))
      have hfw := folL_le fewW 255 (s.drop (p + 8))
      rw [List.length_drop] at hz hfw
      by_cases t0 : tg = 0
      · subst t0
        rw [if_pos rfl, if_pos (show ((0 : Nat) : Int) = 0 from rfl)]
        obtain ⟨K', hK', h2⟩ := l3_l2 s (o ++ [UInt8.ofNat 0] ++ ft) 0 p hs hl hp (by omega) (by rw [List.length_append, List.length_append]; simp; omega) (600 * n + 62) (by omega) 255 K 0 (by omega) (by omega)
        rw [Nat.mul_zero, List.drop_zero, Nat.zero_add] at h2
        have h00 : ((0 : Nat) : Int) = 0 := rfl
        rw [h00] at h2 ⊢
        rw [h2]
        clear h2
        generalize hm : folL zeroW 255 (s.drop (p + 8)) = m at *
        obtain ⟨K', rfl⟩ : ∃ q, K' = q + 1 := ⟨K' - 1, by omega⟩
        simp only [spec_l3Pack.j3]
        rw [if_neg (by decide)]
        obtain ⟨e1, e2, e3, e4, e5, e6, e7⟩ := offs2 p m (by omega) (by omega)
        rw [e5, e6, e7]
        clear e1 e2 e3 e4 e5 e6 e7
        have hpk : p + 8 * m + 8 = p + 8 + 8 * m := by omega
        rw [hpk, ih K' (p + 8 + 8 * m) _ (by omega) (by omega) (by omega) (by omega) (by simp only [List.length_append, List.length_singleton]; omega), List.drop_drop]
        simp
      · rw [if_neg (by omega), if_neg t0]
        obtain ⟨K, rfl⟩ : ∃ q, K = q + 1 := ⟨K - 1, by omega⟩
        simp only [spec_l3Pack.j3]
        by_cases t255 : tg = 255
        · subst t255
          rw [if_pos rfl, if_pos (show ((255 : Nat) : Int) = 255 from rfl)]
          obtain ⟨K', hK', h2⟩ := l3_l3 s (o ++ [UInt8.ofNat 255] ++ ft) p hs hl hp (by omega) (by rw [List.length_append, List.length_append]; simp; omega) (600 * n + 62) (by omega) 255 K 0 (by omega) (by omega) (by omega)
          rw [Nat.mul_zero, List.drop_zero, Nat.zero_add] at h2
          rw [h0] at h2
          rw [h2]
          clear h2
          generalize hm : folL fewW 255 (s.drop (p + 8)) = m at *
          have hpk : p + 8 * m + 8 = p + 8 + 8 * m := by omega
          rw [hpk, ih K' (p + 8 + 8 * m) _ (by omega) (by omega) (by omega) (by omega) (by simp only [List.length_append, List.length_singleton, List.length_take]; omega), List.drop_drop]
          simp
        · rw [if_neg (by omega), if_neg t255]
          have e : wrap64 ((wrap64 ((p : Int) + (wrap64 (8 * 0)))) + 8) = ((p + 8 : Nat) : Int) := by
            rw [wrapN (a := 8 * 0) 0 (by omega) (by omega), wrapN (a := (p : Int) + ((0 : Nat) : Int)) p (by omega) (by omega)]
            exact wrapN _ (by omega) (by omega)
          rw [e]
          clear e
          rw [ih K (p + 8) _ (by omega) (by omega) (by omega) (by omega) (by simp only [List.length_append, List.length_singleton]; omega)]
          simp
    · rw [if_neg (by omega), List.drop_eq_nil_of_le (by omega)]
      unfold packL
      rw [if_pos rfl, List.append_nil]
theorem l3Pack_f (s : ByteArray) (hs : s.size % 8 = 0) (hl : s.size ≤ 100000) (k : Nat) (hk : 600 * s.size + 700 ≤ k) : spec_l3Pack.f k s = some (packV s) := by
  unfold spec_l3Pack.f packV
  have e : s.data.toList.length = s.size := data_length s
  have := l3_l0 s.data.toList (by omega) (by omega) (s.size + 1) k 0 [] (by omega) (by omega) (by omega) (by omega) (by simp; omega)
  rw [B_of, List.drop_zero] at this
  exact this
theorem specPack_f (s : ByteArray) (k : Nat) (hk : 1000000 ≤ k) : spec_Pack.f k s = some (if IsW s then packV s else ⟨#[]⟩) := by
  unfold spec_Pack.f
  rw [l1Ok_f, Option.bind_some]
  by_cases h : IsW s
  · have h1 : (s.size : Int) % 8 = 0 := h.1
    have h2 : (s.size : Int) ≤ 1600 := h.2
    rw [if_pos (by simpa using h), if_pos h, l3Pack_f s (by omega) (by omega) k (by omega), Option.bind_some]
  · rw [if_neg (by simpa using h), if_neg h]
end Go.Proofs.YteocobbddngllaaDoor.Lem
