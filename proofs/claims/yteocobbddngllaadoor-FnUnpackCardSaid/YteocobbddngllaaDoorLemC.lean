/- Plain facts, merged out of several texts: LemPackSpec, LemUnpSpec, LemUnpImpl, LemDrawPack, LemPackAll. -/
import Derived.Test.YteocobbddngllaaDoorLemA
import Derived.Test.YteocobbddngllaaDoorLemGet2
import Derived.Test.YteocobbddngllaaDoorPx1
import Derived.Test.YteocobbddngllaaDoorPx2
import Derived.Test.YteocobbddngllaaDoorPx3
import Derived.Test.YteocobbddngllaaDoorPx4
import Derived.Test.YteocobbddngllaaDoorPx5
import Derived.Test.YteocobbddngllaaDoorPx39
import Derived.Test.YteocobbddngllaaDoorPx40
import Derived.Test.YteocobbddngllaaDoorPx9
import Derived.Test.YteocobbddngllaaDoorStubRepeat
import Derived.Test.YteocobbddngllaaDoorPx32
import Derived.Test.YteocobbddngllaaDoorPx33
import Derived.Test.YteocobbddngllaaDoorLemWord
import Derived.Test.YteocobbddngllaaDoorStubPack
import Derived.Test.YteocobbddngllaaDoorPx25
import Derived.Test.YteocobbddngllaaDoorPx31
import Derived.Test.YteocobbddngllaaDoorPx38
section
namespace Go.Proofs.YteocobbddngllaaDoor.Lem
set_option linter.unusedVariables false
set_option linter.unusedSimpArgs false
open Go Go.RowKit Go.Proofs.YteocobbddngllaaDoor.P Go.Proofs.YteocobbddngllaaDoorW.PrintWords Go.Proofs.YteocobbddngllaaDoorW.PrintLast Go.Proofs.YteocobbddngllaaDoorW.PrintMore
theorem or_tagS : ∀ (x : Fin 256) (i : Fin 8), x.1 < 2 ^ i.1 → Go.bits .or .i64 ((x.1 : Nat) : Int) (shl .i64 1 ((i.1 : Nat) : Int)) = ((x.1 + 2 ^ i.1 : Nat) : Int) := by decide +kernel
theorem byte_at (t : List UInt8) (i : Nat) (h : i < t.length) : bt (B t) (i : Int) = ((t[i]).toNat : Int) ∧ t.drop i = t[i] :: t.drop (i + 1) := by
  refine ⟨?_, List.drop_eq_getElem_cons h⟩
  rw [B_bt, List.getD_eq_getElem?_getD, List.getElem?_eq_getElem h]; rfl
theorem zero_iff (c : UInt8) : ((c.toNat : Int) = 0) ↔ c = 0 := tag0 c
theorem l3Tag_l0 (wd : List UInt8) (hw : wd.length = 8) : ∀ (d k i x : Nat), i + d = 8 → d < k → x < 2 ^ i → spec_l3Tag.l0 k (B wd) x i = some ((x + tagL (wd.drop i) i : Nat) : Int) := by
  intro d
  induction d with
  | zero =>
    intro k i x hi hk hx
    obtain ⟨k, rfl⟩ : ∃ m, k = m + 1 := ⟨k - 1, by omega⟩
    simp only [spec_l3Tag.l0]
    rw [if_neg (by omega), List.drop_eq_nil_of_le (by omega)]; rfl
  | succ d ih =>
    intro k i x hi hk hx
    obtain ⟨k, rfl⟩ : ∃ m, k = m + 1 := ⟨k - 1, by omega⟩
    simp only [spec_l3Tag.l0]
    obtain ⟨hb, hd⟩ := byte_at wd i (by omega)
    have e2 : wrap64 ((i : Int) + 1) = ((i + 1 : Nat) : Int) := by rw [wrap64_id (by omega) (by omega)]; omega
    rw [B_size, if_pos (by omega), if_pos (by omega), if_pos (by omega), hb, e2, hd]
    simp only [tagL]
    by_cases hc : wd[i] = 0
    · rw [if_pos ((zero_iff _).2 hc), if_pos hc, ih k (i + 1) x (by omega) (by omega) (by rw [Nat.pow_succ]; omega), Nat.zero_add]
    · rw [if_neg (fun h => hc ((zero_iff _).1 h)), if_neg hc, or_tagS ⟨x, Nat.lt_of_lt_of_le hx (Nat.pow_le_pow_right (by decide) (by omega : i ≤ 8))⟩ ⟨i, by omega⟩ hx, ih k (i + 1) _ (by omega) (by omega) (by rw [Nat.pow_succ]; dsimp only; omega)]
      congr 2; dsimp only; omega
theorem l3Tag_f (wd : List UInt8) (hw : wd.length = 8) (k : Nat) (hk : 8 < k) : spec_l3Tag.f k (B wd) = some ((tagL wd 0 : Nat) : Int) := by
  unfold spec_l3Tag.f
  have := l3Tag_l0 wd hw 8 k 0 0 (by omega) hk (by decide)
  rw [List.drop_zero, Nat.zero_add] at this
  exact this
theorem l3Few_l0 (wd : List UInt8) (hw : wd.length = 8) : ∀ (d k i x : Nat), i + d = 8 → d < k → x ≤ i → spec_l3Few.l0 k (B wd) x i = some (decide (1 < x + (wd.drop i).count 0)) := by
  intro d
  induction d with
  | zero =>
    intro k i x hi hk hx
    obtain ⟨k, rfl⟩ : ∃ m, k = m + 1 := ⟨k - 1, by omega⟩
    simp only [spec_l3Few.l0]
    rw [if_neg (by omega), List.drop_eq_nil_of_le (by omega)]
    congr 1
    rw [decide_eq_decide, List.count_nil]; omega
  | succ d ih =>
    intro k i x hi hk hx
    obtain ⟨k, rfl⟩ : ∃ m, k = m + 1 := ⟨k - 1, by omega⟩
    simp only [spec_l3Few.l0]
    obtain ⟨hb, hd⟩ := byte_at wd i (by omega)
    have e2 : wrap64 ((i : Int) + 1) = ((i + 1 : Nat) : Int) := by rw [wrap64_id (by omega) (by omega)]; omega
    have e3 : wrap64 ((x : Int) + 1) = ((x + 1 : Nat) : Int) := by rw [wrap64_id (by omega) (by omega)]; omega
    rw [B_size, if_pos (by omega), if_pos (by omega), if_pos (by omega), hb, e2, e3, hd]
    by_cases hc : wd[i] = 0
    · rw [if_pos ((zero_iff _).2 hc), hc, List.count_cons_self]
      rw [ih k (i + 1) (x + 1) (by omega) (by omega) (by omega)]; congr 1; rw [decide_eq_decide]; omega
    · rw [if_neg (fun h => hc ((zero_iff _).1 h)), List.count_cons_of_ne (by exact hc), ih k (i + 1) x (by omega) (by omega) (by omega)]
theorem l3Few_f (wd : List UInt8) (hw : wd.length = 8) (k : Nat) (hk : 8 < k) : spec_l3Few.f k (B wd) = some (!(fewW wd)) := by
  unfold spec_l3Few.f
  have := l3Few_l0 wd hw 8 k 0 0 (by omega) hk (by omega)
  rw [List.drop_zero, Nat.zero_add] at this
  refine this.trans ?_
  congr 1
  unfold fewW
  by_cases h : wd.count 0 ≤ 1
  · rw [decide_eq_true h, decide_eq_false (by omega)]; rfl
  · rw [decide_eq_false h, decide_eq_true (by omega)]; rfl
theorem l1Zero_l0 (wd : List UInt8) (hl : wd.length ≤ 1000000) : ∀ (d k i : Nat), i + d = wd.length → d < k → spec_l1Zero.l0 k (B wd) i = some ((wd.drop i).all fun c => c == 0) := by
  intro d
  induction d with
  | zero =>
    intro k i hi hk
    obtain ⟨k, rfl⟩ : ∃ m, k = m + 1 := ⟨k - 1, by omega⟩
    simp only [spec_l1Zero.l0]
    rw [B_size, if_neg (by omega), List.drop_eq_nil_of_le (by omega)]; rfl
  | succ d ih =>
    intro k i hi hk
    obtain ⟨k, rfl⟩ : ∃ m, k = m + 1 := ⟨k - 1, by omega⟩
    simp only [spec_l1Zero.l0]
    obtain ⟨hb, hd⟩ := byte_at wd i (by omega)
    have e2 : wrap64 ((i : Int) + 1) = ((i + 1 : Nat) : Int) := by rw [wrap64_id (by omega) (by omega)]; omega
    rw [B_size, if_pos (by omega), if_pos (by omega), hb, e2, hd, List.all_cons]
    by_cases hc : wd[i] = 0
    · rw [if_pos ((zero_iff _).2 hc), ih k (i + 1) (by omega) (by omega), hc]; rfl
    · rw [if_neg (fun h => hc ((zero_iff _).1 h))]
      have : (wd[i] == 0) = false := by rw [beq_eq_false_iff_ne]; exact hc
      rw [this]; rfl
theorem l1Zero_f (wd : List UInt8) (hl : wd.length ≤ 1000000) (k : Nat) (hk : wd.length < k) : spec_l1Zero.f k (B wd) = some (wd.all fun c => c == 0) := by
  unfold spec_l1Zero.f
  have := l1Zero_l0 wd hl wd.length k 0 (by omega) hk
  rw [List.drop_zero] at this
  exact this
theorem zeroW_all (wd : List UInt8) (hw : wd.length = 8) : (wd.all fun c => c == 0) = zeroW wd := by
  unfold zeroW
  by_cases h : wd.count 0 = 8
  · rw [decide_eq_true h, List.all_eq_true]
    intro c hc
    have := (List.count_eq_length.1 (h.trans hw.symm)) c hc
    rw [beq_iff_eq]; exact this.symm
  · rw [decide_eq_false h]
    rw [Bool.eq_false_iff]
    intro ha
    rw [List.all_eq_true] at ha
    exact h (by rw [← hw]; exact List.count_eq_length.2 (fun c hc => (beq_iff_eq.1 (ha c hc)).symm))
theorem one_num (n : Nat) : strOfNums [(n : Int) % 256] = B [UInt8.ofNat n] := by
  unfold strOfNums B
  congr 2
  simp only [List.map_cons, List.map_nil]
  congr 1
  apply UInt8.toNat_inj.1
  rw [UInt8.toNat_ofNat', UInt8.toNat_ofNat']; omega
/-- The bytes of a word that are not 0, one by one. -/
theorem l3_l1 (s wd : List UInt8) (hw : wd.length = 8) (tag p : Int) : ∀ (d K i : Nat) (o : List UInt8), i + d = 8 → o.length + d ≤ 1000000000 →
    spec_l3Pack.l1 (K + d) (B s) (B o) p (B wd) tag i = spec_l3Pack.l1 K (B s) (B (o ++ (wd.drop i).filter notZero)) p (B wd) tag 8 := by
  intro d
  induction d with
  | zero =>
    intro K i o hi ho
    obtain rfl : i = 8 := by omega
    rw [List.drop_eq_nil_of_le (by omega), List.filter_nil, List.append_nil]; rfl
  | succ d ih =>
    intro K i o hi ho
    show spec_l3Pack.l1 ((K + d) + 1) _ _ _ _ _ _ = _
    simp only [spec_l3Pack.l1]
    obtain ⟨hb, hd⟩ := byte_at wd i (by omega)
    have e2 : wrap64 ((i : Int) + 1) = ((i + 1 : Nat) : Int) := by rw [wrap64_id (by omega) (by omega)]; omega
    rw [B_size, B_size, if_pos (by omega), if_pos (by omega), if_pos (by omega), hb, e2, hd]
    by_cases hc : wd[i] = 0
    · rw [if_pos ((zero_iff _).2 hc), List.filter_cons_of_neg (by rw [hc]; decide)]
      exact ih K (i + 1) o (by omega) (by omega)
    · have hx : (B wd).extract (i : Int).toNat ((i + 1 : Nat) : Int).toNat = B [wd[i]] := by
        rw [Int.toNat_natCast, Int.toNat_natCast, B_extract, List.drop_take, hd]
        have : i + 1 - i = 1 := by omega
        rw [this]; rfl
      rw [if_neg (fun h => hc ((zero_iff _).1 h)), List.filter_cons_of_pos (by unfold notZero; simpa using hc), if_pos (by omega), if_pos (by omega), hx, if_pos (by rw [B_size]; simp; omega), B_append]
      rw [ih K (i + 1) (o ++ [wd[i]]) (by omega) (by rw [List.length_append, List.length_singleton]; omega), List.append_assoc]; rfl
theorem wrapN {a : Int} (m : Nat) (h : a = m) (hm : m ≤ 1000000000) : wrap64 a = (m : Int) := by rw [wrap64_id (by omega) (by omega)]; exact h
theorem offs (p n : Nat) (hp : p ≤ 100000) (hn : n ≤ 255) : wrap64 ((n : Int) + 1) = ((n + 1 : Nat) : Int) ∧ wrap64 (8 * ((n + 1 : Nat) : Int)) = ((8 * (n + 1) : Nat) : Int) ∧ wrap64 ((p : Int) + ((8 * (n + 1) : Nat) : Int)) = ((p + 8 * (n + 1) : Nat) : Int) ∧
    wrap64 ((n : Int) + 2) = ((n + 2 : Nat) : Int) ∧ wrap64 (8 * ((n + 2 : Nat) : Int)) = ((8 * (n + 2) : Nat) : Int) ∧ wrap64 ((p : Int) + ((8 * (n + 2) : Nat) : Int)) = ((p + 8 * (n + 2) : Nat) : Int) :=
  ⟨wrapN _ (by omega) (by omega), wrapN _ (by omega) (by omega), wrapN _ (by omega) (by omega), wrapN _ (by omega) (by omega), wrapN _ (by omega) (by omega), wrapN _ (by omega) (by omega)⟩
theorem offs2 (p n : Nat) (hp : p ≤ 100000) (hn : n ≤ 255) : wrap64 ((n : Int) + 1) = ((n + 1 : Nat) : Int) ∧ wrap64 (8 * ((n + 1 : Nat) : Int)) = ((8 * (n + 1) : Nat) : Int) ∧ wrap64 ((p : Int) + ((8 * (n + 1) : Nat) : Int)) = ((p + 8 * (n + 1) : Nat) : Int) ∧
    wrap64 ((p : Int) + 8) = ((p + 8 : Nat) : Int) ∧ wrap64 (8 * (n : Int)) = ((8 * n : Nat) : Int) ∧ wrap64 ((p : Int) + ((8 * n : Nat) : Int)) = ((p + 8 * n : Nat) : Int) ∧ wrap64 (((p + 8 * n : Nat) : Int) + 8) = ((p + 8 * n + 8 : Nat) : Int) :=
  ⟨wrapN _ (by omega) (by omega), wrapN _ (by omega) (by omega), wrapN _ (by omega) (by omega), wrapN _ (by omega) (by omega), wrapN _ (by omega) (by omega), wrapN _ (by omega) (by omega), wrapN _ (by omega) (by omega)⟩
theorem fol_step (p : List UInt8 → Bool) (n : Nat) (t : List UInt8) : folL p (n + 1) t = if 8 ≤ t.length then (if p (t.take 8) = true then 1 + folL p n (t.drop 8) else 0) else 0 := rfl
/-- Words of noughts are counted. -/
theorem l3_l2 (s o : List UInt8) (tag : Int) (p : Nat) (hs : s.length % 8 = 0) (hl : s.length ≤ 100000) (hp : p % 8 = 0) (hp2 : p + 8 ≤ s.length) (ho : o.length ≤ 1000000000) (K0 : Nat) (hK : 20 ≤ K0) : ∀ (d K n : Nat), n + d = 255 → d + 2 + K0 ≤ K →
    ∃ K', K0 ≤ K' ∧ spec_l3Pack.l2 K (B s) (B o) p tag n = spec_l3Pack.j3 K' (B s) (B (o ++ [UInt8.ofNat (n + folL zeroW d ((s.drop (p + 8)).drop (8 * n)))])) p tag ((n + folL zeroW d ((s.drop (p + 8)).drop (8 * n)) : Nat) : Int) := by
  intro d
  induction d with
  | zero =>
    intro K n hn hKK
    obtain ⟨K, rfl⟩ : ∃ m, K = m + 1 := ⟨K - 1, by omega⟩
    refine ⟨K, by omega, ?_⟩
    simp only [spec_l3Pack.l2]
    rw [if_neg (by omega), Option.bind_some, one_num, if_pos (by rw [B_size, B_size]; simp; omega), B_append]
    rfl
  | succ d ih =>
    intro K n hn hKK
    obtain ⟨K, rfl⟩ : ∃ m, K = m + 1 := ⟨K - 1, by omega⟩
    simp only [spec_l3Pack.l2]
    obtain ⟨e1, e2, e3, e4, e5, e6⟩ := offs p n (by omega) (by omega)
    rw [e1, e2, e3, e4, e5, e6]
    clear e1 e2 e3 e4 e5 e6
    rw [if_pos (by omega), B_size, fol_step, List.length_drop, List.length_drop]
    by_cases hlt : p + 8 * (n + 1) < s.length
    · have hx : (B s).extract ((p + 8 * (n + 1) : Nat) : Int).toNat ((p + 8 * (n + 2) : Nat) : Int).toNat = B (((s.drop (p + 8)).drop (8 * n)).take 8) := by
        rw [Int.toNat_natCast, Int.toNat_natCast, B_extract, List.drop_take, List.drop_drop]
        congr 2
        · omega
        · congr 1; omega
      have hwl : (((s.drop (p + 8)).drop (8 * n)).take 8).length = 8 := by rw [List.length_take, List.length_drop, List.length_drop]; omega
      rw [if_pos (by omega), if_pos (by omega), if_pos (by omega), if_pos (by omega), hx, l1Zero_f _ (by omega) K (by omega), zeroW_all _ hwl, Option.bind_some, if_pos (show 8 ≤ s.length - (p + 8) - 8 * n by omega)]
      by_cases hz : zeroW (((s.drop (p + 8)).drop (8 * n)).take 8) = true
      · rw [if_pos hz, if_pos hz]
        obtain ⟨K', h1, h2⟩ := ih K (n + 1) (by omega) (by omega)
        refine ⟨K', h1, h2.trans ?_⟩
        have ed : ((s.drop (p + 8)).drop (8 * n)).drop 8 = (s.drop (p + 8)).drop (8 * (n + 1)) := by rw [List.drop_drop]; congr 1
        rw [ed]
        have en : n + 1 + folL zeroW d ((s.drop (p + 8)).drop (8 * (n + 1))) = n + (1 + folL zeroW d ((s.drop (p + 8)).drop (8 * (n + 1)))) := by omega
        rw [en]
      · rw [if_neg hz, if_neg hz]
        refine ⟨K, by omega, ?_⟩
        rw [Option.bind_some, one_num, if_pos (by rw [B_size, B_size]; simp; omega), B_append]
        rfl
    · rw [if_neg (by omega), if_neg (show ¬ 8 ≤ s.length - (p + 8) - 8 * n by omega)]
      refine ⟨K, by omega, ?_⟩
      rw [Option.bind_some, one_num, if_pos (by rw [B_size, B_size]; simp; omega), B_append]
      rfl
/-- Words that have one nought at the most are counted, and written as they are. -/
theorem l3_l3 (s o : List UInt8) (p : Nat) (hs : s.length % 8 = 0) (hl : s.length ≤ 100000) (hp : p % 8 = 0) (hp2 : p + 8 ≤ s.length) (ho : o.length ≤ 1000000000) (K0 : Nat) (hK : 20 ≤ K0) : ∀ (d K n : Nat), n + d = 255 → d + 2 + K0 ≤ K → p + 8 + 8 * n ≤ s.length →
    ∃ K', K0 ≤ K' ∧ spec_l3Pack.l3 K (B s) (B o) p n = spec_l3Pack.l0 K' (B s) (B (o ++ [UInt8.ofNat (n + folL fewW d ((s.drop (p + 8)).drop (8 * n)))] ++ (s.drop (p + 8)).take (8 * (n + folL fewW d ((s.drop (p + 8)).drop (8 * n)))))) ((p + 8 * (n + folL fewW d ((s.drop (p + 8)).drop (8 * n))) + 8 : Nat) : Int) := by
  intro d
  have fin : ∀ (K n : Nat), K0 ≤ K → n ≤ 255 → p + 8 + 8 * n ≤ s.length →
      ((some (([(n : Int) % 256] : List Int) : List Int)).bind fun y122 => (if (B o).size + (strOfNums y122).size ≤ 9223372036854775807 then (if 0 ≤ (wrap64 ((p : Int) + 8)) then (if (wrap64 ((p : Int) + 8)) ≤ (wrap64 ((p : Int) + (wrap64 (8 * (wrap64 ((n : Int) + 1)))))) then (if (wrap64 ((p : Int) + (wrap64 (8 * (wrap64 ((n : Int) + 1)))))) ≤ ((B s).size : Int) then (if (B o ++ (strOfNums y122)).size + ((B s).extract ((wrap64 ((p : Int) + 8)) : Int).toNat ((wrap64 ((p : Int) + (wrap64 (8 * (wrap64 ((n : Int) + 1)))))) : Int).toNat).size ≤ 9223372036854775807 then (spec_l3Pack.l0 K (B s) ((B o ++ (strOfNums y122)) ++ ((B s).extract ((wrap64 ((p : Int) + 8)) : Int).toNat ((wrap64 ((p : Int) + (wrap64 (8 * (wrap64 ((n : Int) + 1)))))) : Int).toNat)) (wrap64 ((wrap64 ((p : Int) + (wrap64 (8 * (n : Int))))) + 8))) else (none)) else (none)) else (none)) else (none)) else (none)))
      = spec_l3Pack.l0 K (B s) (B (o ++ [UInt8.ofNat n] ++ (s.drop (p + 8)).take (8 * n))) ((p + 8 * n + 8 : Nat) : Int) := by
    intro K n hKK hn hle
    have hx : (B s).extract ((p + 8 : Nat) : Int).toNat ((p + 8 * (n + 1) : Nat) : Int).toNat = B ((s.drop (p + 8)).take (8 * n)) := by
      rw [Int.toNat_natCast, Int.toNat_natCast, B_extract, List.drop_take]; congr 2; omega
    have hxl : ((s.drop (p + 8)).take (8 * n)).length ≤ 3000 := by rw [List.length_take]; omega
    obtain ⟨e1, e2, e3, e4, e5, e6, e7⟩ := offs2 p n (by omega) (by omega)
    rw [Option.bind_some, e1, e2, e3, e4, e5, e6, e7]
    clear e1 e2 e3 e4 e5 e6 e7
    rw [hx, one_num, B_append, B_append, B_size, B_size, B_size, B_size, B_size]
    rw [if_pos (by simp; omega), if_pos (by omega), if_pos (by omega), if_pos (by omega), if_pos (by rw [List.length_append]; simp only [List.length_singleton]; omega)]
  induction d with
  | zero =>
    intro K n hn hKK hle
    obtain ⟨K, rfl⟩ : ∃ m, K = m + 1 := ⟨K - 1, by omega⟩
    refine ⟨K, by omega, ?_⟩
    simp only [spec_l3Pack.l3]
    rw [if_neg (by omega), fin K n (by omega) (by omega) hle]
    rfl
  | succ d ih =>
    intro K n hn hKK hle
    obtain ⟨K, rfl⟩ : ∃ m, K = m + 1 := ⟨K - 1, by omega⟩
    simp only [spec_l3Pack.l3]
    have fn := fin K n (by omega) (by omega) hle
    rw [if_pos (by omega), fn, fol_step, List.length_drop, List.length_drop]
    clear fn fin
    obtain ⟨e1, e2, e3, e4, e5, e6⟩ := offs p n (by omega) (by omega)
    rw [e1, e2, e3, e4, e5, e6, B_size]
    clear e1 e2 e3 e4 e5 e6
    by_cases hlt : p + 8 * (n + 1) < s.length
    · have hx : (B s).extract ((p + 8 * (n + 1) : Nat) : Int).toNat ((p + 8 * (n + 2) : Nat) : Int).toNat = B (((s.drop (p + 8)).drop (8 * n)).take 8) := by
        rw [Int.toNat_natCast, Int.toNat_natCast, B_extract, List.drop_take, List.drop_drop]
        congr 2
        · omega
        · congr 1; omega
      have hwl : (((s.drop (p + 8)).drop (8 * n)).take 8).length = 8 := by rw [List.length_take, List.length_drop, List.length_drop]; omega
      rw [if_pos (by omega), if_pos (by omega), if_pos (by omega), if_pos (by omega), hx, l3Few_f _ hwl K (by omega), Option.bind_some, if_pos (show 8 ≤ s.length - (p + 8) - 8 * n by omega)]
      by_cases hz : fewW (((s.drop (p + 8)).drop (8 * n)).take 8) = true
      · rw [if_neg (by rw [hz]; decide), if_pos hz]
        obtain ⟨K', h1, h2⟩ := ih K (n + 1) (by omega) (by omega) (by omega)
        refine ⟨K', h1, h2.trans ?_⟩
        have ed : ((s.drop (p + 8)).drop (8 * n)).drop 8 = (s.drop (p + 8)).drop (8 * (n + 1)) := by rw [List.drop_drop]; congr 1
        rw [ed]
        have en : n + 1 + folL fewW d ((s.drop (p + 8)).drop (8 * (n + 1))) = n + (1 + folL fewW d ((s.drop (p + 8)).drop (8 * (n + 1)))) := by omega
        rw [en]
      · have hz' : fewW (((s.drop (p + 8)).drop (8 * n)).take 8) = false := by simpa using hz
        rw [if_pos (by rw [hz']; rfl), if_neg hz]
        exact ⟨K, by omega, rfl⟩
    · rw [if_neg (by omega), if_neg (show ¬ 8 ≤ s.length - (p + 8) - 8 * n by omega)]
      exact ⟨K, by omega, rfl⟩
theorem tag_fact {n : Nat} (h : n < 256) : ((n : Int) % 256 = n) := by omega
theorem l3_l0 (s : List UInt8) (hs : s.length % 8 = 0) (hl : s.length ≤ 100000) : ∀ (n K p : Nat) (o : List UInt8), 600 * n + 60 ≤ K → p % 8 = 0 → p ≤ s.length → s.length - p < n → o.length + 2100 * n ≤ 300000000 →
    spec_l3Pack.l0 K (B s) (B o) p = some (B (o ++ packL n (s.drop p))) := by
  intro n
  induction n with
  | zero => intro K p o _ _ _ h; omega
  | succ n ih =>
    intro K p o hK hp hp2 hn ho
    obtain ⟨K, rfl⟩ : ∃ m, K = m + 1 := ⟨K - 1, by omega⟩
    simp only [spec_l3Pack.l0]
    rw [B_size]
    by_cases hlt : p < s.length
    · have ht : ¬ s.drop p = [] := by
        intro h
        have := congrArg List.length h
        rw [List.length_drop] at this
        have h0 : ([] : List UInt8).length = 0 := rfl
        omega
      have e1 : wrap64 ((p : Int) + 8) = ((p + 8 : Nat) : Int) := wrapN _ (by omega) (by omega)
      rw [e1]
      clear e1
      have hx : (B s).extract (p : Int).toNat ((p + 8 : Nat) : Int).toNat = B ((s.drop p).take 8) := by
        rw [Int.toNat_natCast, Int.toNat_natCast, B_extract, List.drop_take]; congr 2; omega
      have hwl : ((s.drop p).take 8).length = 8 := by rw [List.length_take, List.length_drop]; omega
      have hdd : (s.drop p).drop 8 = s.drop (p + 8) := by rw [List.drop_drop]
      rw [if_pos (by omega), if_pos (by omega), if_pos (by omega), if_pos (by omega), hx, l3Tag_f _ hwl K (by omega), Option.bind_some, Option.bind_some, one_num]
      unfold packL
      rw [if_neg ht, hdd]
      generalize (s.drop p).take 8 = wd at *
      have hT : tagL wd 0 < 256 := by have := tagL_lt wd 0; rw [hwl] at this; omega
      have hfl : (wd.filter notZero).length ≤ 8 := by rw [← hwl]; exact List.length_filter_le _ _
      generalize hf : wd.filter notZero = ft at *
      rw [if_pos (by rw [B_size, B_size]; simp; omega), B_append]
      obtain ⟨K, rfl⟩ : ∃ m, K = m + 1 + 8 := ⟨K - 9, by omega⟩
      have h1 := l3_l1 s wd hwl ((tagL wd 0 : Nat) : Int) p 8 (K + 1) 0 (o ++ [UInt8.ofNat (tagL wd 0)]) (by omega) (by rw [List.length_append]; simp; omega)
      rw [List.drop_zero, hf] at h1
      have h0 : ((0 : Nat) : Int) = 0 := rfl
      rw [h0] at h1
      rw [h1]
      clear h1 hx
      simp only [spec_l3Pack.l1]
      rw [if_neg (by decide)]
      generalize tagL wd 0 = tg at *
      have hz := folL_le zeroW 255 (s.drop (p + 8))
      have hfw := folL_le fewW 255 (s.drop (p + 8))
      rw [List.length_drop] at hz hfw
      by_cases t0 : tg = 0
      · subst t0
        rw [if_pos rfl, if_pos (show ((0 : Nat) : Int) = 0 from rfl)]
        obtain ⟨K', hK', h2⟩ := l3_l2 s (o ++ [UInt8.ofNat 0] ++ ft) 0 p hs hl hp (by omega) (by rw [List.length_append, List.length_append]; simp; omega) (600 * n + 62) (by omega) 255 K 0 (by omega) (by omega)
        rw [Nat.mul_zero, List.drop_zero, Nat.zero_add] at h2
        have h00 : ((0 : Nat) : Int) = 0 := rfl
        rw [h00] at h2 ⊢
        rw [h2]
        clear h2
        generalize hm : folL zeroW 255 (s.drop (p + 8)) = m at *
        obtain ⟨K', rfl⟩ : ∃ q, K' = q + 1 := ⟨K' - 1, by omega⟩
        simp only [spec_l3Pack.j3]
        rw [if_neg (by decide)]
        obtain ⟨e1, e2, e3, e4, e5, e6, e7⟩ := offs2 p m (by omega) (by omega)
        rw [e5, e6, e7]
        clear e1 e2 e3 e4 e5 e6 e7
        have hpk : p + 8 * m + 8 = p + 8 + 8 * m := by omega
        rw [hpk, ih K' (p + 8 + 8 * m) _ (by omega) (by omega) (by omega) (by omega) (by simp only [List.length_append, List.length_singleton]; omega), List.drop_drop]
        simp
      · rw [if_neg (by omega), if_neg t0]
        obtain ⟨K, rfl⟩ : ∃ q, K = q + 1 := ⟨K - 1, by omega⟩
        simp only [spec_l3Pack.j3]
        by_cases t255 : tg = 255
        · subst t255
          rw [if_pos rfl, if_pos (show ((255 : Nat) : Int) = 255 from rfl)]
          obtain ⟨K', hK', h2⟩ := l3_l3 s (o ++ [UInt8.ofNat 255] ++ ft) p hs hl hp (by omega) (by rw [List.length_append, List.length_append]; simp; omega) (600 * n + 62) (by omega) 255 K 0 (by omega) (by omega) (by omega)
          rw [Nat.mul_zero, List.drop_zero, Nat.zero_add] at h2
          rw [h0] at h2
          rw [h2]
          clear h2
          generalize hm : folL fewW 255 (s.drop (p + 8)) = m at *
          have hpk : p + 8 * m + 8 = p + 8 + 8 * m := by omega
          rw [hpk, ih K' (p + 8 + 8 * m) _ (by omega) (by omega) (by omega) (by omega) (by simp only [List.length_append, List.length_singleton, List.length_take]; omega), List.drop_drop]
          simp
        · rw [if_neg (by omega), if_neg t255]
          have e : wrap64 ((wrap64 ((p : Int) + (wrap64 (8 * 0)))) + 8) = ((p + 8 : Nat) : Int) := by
            rw [wrapN (a := 8 * 0) 0 (by omega) (by omega), wrapN (a := (p : Int) + ((0 : Nat) : Int)) p (by omega) (by omega)]
            exact wrapN _ (by omega) (by omega)
          rw [e]
          clear e
          rw [ih K (p + 8) _ (by omega) (by omega) (by omega) (by omega) (by simp only [List.length_append, List.length_singleton]; omega)]
          simp
    · rw [if_neg (by omega), List.drop_eq_nil_of_le (by omega)]
      unfold packL
      rw [if_pos rfl, List.append_nil]
theorem l3Pack_f (s : ByteArray) (hs : s.size % 8 = 0) (hl : s.size ≤ 100000) (k : Nat) (hk : 600 * s.size + 700 ≤ k) : spec_l3Pack.f k s = some (packV s) := by
  unfold spec_l3Pack.f packV
  have e : s.data.toList.length = s.size := data_length s
  have := l3_l0 s.data.toList (by omega) (by omega) (s.size + 1) k 0 [] (by omega) (by omega) (by omega) (by omega) (by simp; omega)
  rw [B_of, List.drop_zero] at this
  exact this
theorem specPack_f (s : ByteArray) (k : Nat) (hk : 1000000 ≤ k) : spec_Pack.f k s = some (if IsW s then packV s else ⟨#[]⟩) := by
  unfold spec_Pack.f
  rw [l1Ok_f, Option.bind_some]
  by_cases h : IsW s
  · have h1 : (s.size : Int) % 8 = 0 := h.1
    have h2 : (s.size : Int) ≤ 1600 := h.2
    rw [if_pos (by simpa using h), if_pos h, l3Pack_f s (by omega) (by omega) k (by omega), Option.bind_some]
  · rw [if_neg (by simpa using h), if_neg h]
end Go.Proofs.YteocobbddngllaaDoor.Lem
end
section
namespace Go.Proofs.YteocobbddngllaaDoor.Lem
set_option linter.unusedVariables false
set_option linter.unusedSimpArgs false
open Go Go.RowKit Go.Proofs.YteocobbddngllaaDoor.P Go.Proofs.YteocobbddngllaaDoorW.PrintWords Go.Proofs.YteocobbddngllaaDoorW.PrintLast Go.Proofs.YteocobbddngllaaDoorW.PrintMore
theorem zeros_add (a b : Nat) : zeros a ++ zeros b = zeros (a + b) := by unfold zeros; exact List.replicate_append_replicate
theorem manyZero_l0 : ∀ (d k m p n : Nat), n < 2 ^ d → d < k → d ≤ 20 → m * n + p ≤ 1000000 → n ≤ 1000000 → m ≤ 1000000000000 →
    spec_l1Many.l0 k (B (zeros m)) n (B (zeros p)) = some (B (zeros (p + m * n))) := by
  intro d
  induction d with
  | zero =>
    intro k m p n hn hk _ _ _ _
    obtain ⟨k, rfl⟩ : ∃ m, k = m + 1 := ⟨k - 1, by omega⟩
    simp only [spec_l1Many.l0]
    obtain rfl : n = 0 := by omega
    rw [if_neg (by omega)]; simp
  | succ d ih =>
    intro k m p n hn hk hd hsz hn2 hs
    obtain ⟨k, rfl⟩ : ∃ m, k = m + 1 := ⟨k - 1, by omega⟩
    simp only [spec_l1Many.l0]
    by_cases h0 : n = 0
    · subst h0
      rw [if_neg (by omega)]; simp
    · have hs1 : m ≤ m * n := Nat.le_mul_of_pos_right _ (by omega)
      have e1 : Int.tmod (n : Int) 2 = ((n % 2 : Nat) : Int) := by rw [Int.tmod_eq_emod_of_nonneg (by omega)]; omega
      have e2 : wrap64 (Int.tdiv (n : Int) 2) = ((n / 2 : Nat) : Int) := by
        rw [Int.tdiv_eq_ediv_of_nonneg (by omega), wrap64_id (by omega) (by omega)]; omega
      rw [if_pos (by omega), e1, e2]
      have key : (m + m) * (n / 2) + m * (n % 2) = m * n := by
        have := Nat.div_add_mod n 2
        conv => rhs; rw [← this]
        rw [Nat.mul_add, ← Nat.mul_assoc, Nat.mul_two]
      have z : ∀ q, (B (zeros q)).size = q := fun q => by rw [B_size, zeros_length]
      by_cases hodd : n % 2 = 1
      · rw [if_pos (by omega), if_pos (by rw [z, z]; omega), if_pos (by rw [z]; omega)]
        rw [hodd, Nat.mul_one] at key
        rw [B_append, B_append, zeros_add, zeros_add, ih k (m + m) (p + m) (n / 2) (by rw [Nat.pow_succ] at hn; omega) (by omega) (by omega) (by omega) (by omega) (by omega)]
        congr 3; omega
      · have hev : n % 2 = 0 := by omega
        rw [if_neg (by omega), if_pos (by rw [z]; omega)]
        rw [hev, Nat.mul_zero, Nat.add_zero] at key
        rw [B_append, zeros_add, ih k (m + m) p (n / 2) (by rw [Nat.pow_succ] at hn; omega) (by omega) (by omega) (by omega) (by omega) (by omega), key]
theorem manyZero_f (k n : Nat) (hk : 20 < k) (hn : n ≤ 1000000) : spec_l1Many.f k (⟨#[0]⟩ : ByteArray) n = some (B (zeros n)) := by
  unfold spec_l1Many.f
  have := manyZero_l0 20 k 1 0 n (by omega) hk (by omega) (by omega) hn (by omega)
  rw [Nat.zero_add, Nat.one_mul] at this
  exact this
theorem l3Word_l0 (r : List UInt8) (hr : r.length ≤ 100000000) (tag : UInt8) : ∀ (d k i n : Nat) (acc : List UInt8), i + d = 8 → d < k → n ≤ r.length → acc.length ≤ 8 * i →
    spec_l3Word.l0 k (B r) (tag.toNat : Int) (nums acc) n i = some (match takeW tag d (r.drop n) with | none => ((⟨#[]⟩ : ByteArray), (0 : Int), false) | some (w, j) => (B (acc ++ w), ((n + j : Nat) : Int), true)) := by
  intro d
  induction d with
  | zero =>
    intro k i n acc hi hk hn ha
    obtain ⟨k, rfl⟩ : ∃ m, k = m + 1 := ⟨k - 1, by omega⟩
    simp only [spec_l3Word.l0]
    rw [if_neg (by omega)]
    simp only [takeW]
    rw [B_strOf, List.append_nil]; rfl
  | succ d ih =>
    intro k i n acc hi hk hn ha
    obtain ⟨k, rfl⟩ : ∃ m, k = m + 1 := ⟨k - 1, by omega⟩
    simp only [spec_l3Word.l0]
    rw [if_pos (by omega), if_pos (by omega), nums_length]
    have e2 : wrap64 ((i : Int) + 1) = ((i + 1 : Nat) : Int) := by rw [wrap64_id (by omega) (by omega)]; omega
    have e7 : 7 - d = i := by omega
    rw [e2]
    simp only [takeW]
    rw [e7]
    by_cases hb : bitB tag i = true
    · rw [if_neg (by rw [bitB_i64 tag i (by omega)]; simpa using hb), if_pos hb, B_size]
      by_cases hn2 : n < r.length
      · have hd : r.drop n = r[n] :: r.drop (n + 1) := List.drop_eq_getElem_cons hn2
        have hg : r.getD n 0 = r[n] := by rw [List.getD_eq_getElem?_getD, List.getElem?_eq_getElem hn2]; rfl
        have e3 : wrap64 ((n : Int) + 1) = ((n + 1 : Nat) : Int) := by rw [wrap64_id (by omega) (by omega)]; omega
        rw [if_neg (by omega), if_pos (by omega), if_pos (by omega), if_pos (by omega), B_bt, hg, e3]
        have hna : nums acc ++ [(r[n].toNat : Int)] = nums (acc ++ [r[n]]) := by rw [nums_append]; rfl
        rw [hna, ih k (i + 1) (n + 1) (acc ++ [r[n]]) (by omega) (by omega) (by omega) (by rw [List.length_append, List.length_singleton]; omega), hd]
        dsimp only
        cases takeW tag d (r.drop (n + 1)) with
        | none => rfl
        | some p =>
          obtain ⟨w, j⟩ := p
          simp only [Option.map_some, List.append_assoc, List.singleton_append]
          congr 3; omega
      · rw [if_pos (by omega), List.drop_eq_nil_of_le (by omega)]
    · rw [if_pos (by rw [bitB_i64 tag i (by omega)]; exact hb), if_neg hb, if_pos (by omega)]
      have hna : nums acc ++ [(0 : Int)] = nums (acc ++ [0]) := by rw [nums_append]; rfl
      rw [hna, ih k (i + 1) n (acc ++ [0]) (by omega) (by omega) (by omega) (by rw [List.length_append, List.length_singleton]; omega)]
      cases takeW tag d (r.drop n) with
      | none => rfl
      | some p =>
        obtain ⟨w, j⟩ := p
        simp only [Option.map_some, List.append_assoc, List.singleton_append]
theorem l3Word_f (r : List UInt8) (hr : r.length ≤ 100000000) (tag : UInt8) (k : Nat) (hk : 8 < k) :
    spec_l3Word.f k (B r) (tag.toNat : Int) = some (match takeW tag 8 r with | none => ((⟨#[]⟩ : ByteArray), (0 : Int), false) | some (w, j) => (B w, (j : Int), true)) := by
  unfold spec_l3Word.f
  have := l3Word_l0 r hr tag 8 k 0 0 [] (by omega) hk (by omega) (by simp)
  rw [List.drop_zero] at this
  simp only [Nat.zero_add, List.nil_append] at this
  exact this
set_option maxHeartbeats 4000000 in
theorem unp_j1 (r : List UInt8) (hr : r.length ≤ 100000000) (k n : Nat) (hk : 30 ≤ k)
    (ih : ∀ (o : List UInt8) (p : Nat), o.length ≤ 1600 → p ≤ r.length → r.length - p < n → spec_Unpack.l0 k (B r) (B o) p = some (finU o (unpL n (r.drop p))))
    (o : List UInt8) (p : Nat) (tag : UInt8) (ho : o.length ≤ 2000) (hp : p ≤ r.length) (hn : r.length - p < n) :
    spec_Unpack.j1 (k + 1) (B r) (B o) p (tag.toNat : Int) (decide (tag = 0 ∨ tag = 255)) = some (finU o (afterW tag (r.drop p) (unpL n))) := by
  have fin : ∀ (a : List UInt8) (q : Nat), a.length ≤ 10000 → q ≤ r.length → p ≤ q → (if ((B (o ++ a)).size : Int) > 1600 then (some ((⟨#[]⟩ : ByteArray), false)) else (spec_Unpack.l0 k (B r) (B (o ++ a)) q)) = some (finU (o ++ a) (unpL n (r.drop q))) := by
    intro a q ha hq hpq
    rw [B_size]
    by_cases h : 1600 < (o ++ a).length
    · rw [if_pos (by omega), finU_long _ h]; rfl
    · rw [if_neg (by omega), ih (o ++ a) q (by omega) hq (by omega)]
  simp only [spec_Unpack.j1]
  by_cases h0 : tag = 0 ∨ tag = 255
  · rw [if_pos (by simpa using h0), B_size]
    by_cases hlt : p < r.length
    · have hd : r.drop p = r[p] :: r.drop (p + 1) := List.drop_eq_getElem_cons hlt
      have hg : r.getD p 0 = r[p] := by rw [List.getD_eq_getElem?_getD, List.getElem?_eq_getElem hlt]; rfl
      have e1 : wrap64 ((p : Int) + 1) = ((p + 1 : Nat) : Int) := by rw [wrap64_id (by omega) (by omega)]; omega
      rw [if_neg (by omega), if_pos (by omega), if_pos (by omega), B_bt, hg, e1]
      generalize r[p] = m at hd
      have hm : m.toNat < 256 := m.toNat_lt
      have e2 : wrap64 (8 * wrap64 (m.toNat : Int)) = ((8 * m.toNat : Nat) : Int) := by rw [wrap64_id (n := (m.toNat : Int)) (by omega) (by omega), wrap64_id (by omega) (by omega)]; omega
      rw [e2, hd]
      by_cases t0 : tag = 0
      · rw [if_pos ((tag0 tag).2 t0), manyZero_f k _ (by omega) (by omega), Option.bind_some, if_pos (by rw [B_size, B_size, zeros_length]; omega), B_append]
        rw [fin _ (p + 1) (by rw [zeros_length]; omega) (by omega) (by omega)]
        unfold afterW
        rw [if_pos t0]
        dsimp only
        rw [finU_map]
      · have t255 : tag = 255 := by rcases h0 with h | h <;> first | exact absurd h t0 | exact h
        rw [if_neg (fun h => t0 ((tag0 tag).1 h))]
        have e3 : wrap64 (((p + 1 : Nat) : Int) + ((8 * m.toNat : Nat) : Int)) = ((p + 1 + 8 * m.toNat : Nat) : Int) := by rw [wrap64_id (by omega) (by omega)]; omega
        rw [e3]
        unfold afterW
        rw [if_neg t0, if_pos t255]
        dsimp only
        rw [List.length_drop]
        by_cases hq : p + 1 + 8 * m.toNat ≤ r.length
        · have hx : (B r).extract ((p + 1 : Nat) : Int).toNat ((p + 1 + 8 * m.toNat : Nat) : Int).toNat = B ((r.drop (p + 1)).take (8 * m.toNat)) := by
            rw [Int.toNat_natCast, Int.toNat_natCast, B_extract, List.drop_take]; congr 2; omega
          rw [if_neg (by omega), if_pos (by omega), if_pos (by omega), if_pos (by omega), hx, if_pos (by rw [B_size, B_size, List.length_take]; omega), B_append, if_pos (show 8 * m.toNat ≤ r.length - (p + 1) by omega)]
          rw [fin _ (p + 1 + 8 * m.toNat) (by rw [List.length_take]; omega) (by omega) (by omega), finU_map, List.drop_drop]
        · rw [if_pos (by omega), if_neg (by omega)]; rfl
    · rw [if_pos (by omega), List.drop_eq_nil_of_le (by omega)]
      unfold afterW
      rcases h0 with h | h
      · rw [if_pos h]; rfl
      · subst h; rfl
  · rw [if_neg (by simpa using h0)]
    have t0 : ¬ tag = 0 := fun h => h0 (Or.inl h)
    have t255 : ¬ tag = 255 := fun h => h0 (Or.inr h)
    have := fin [] p (by simp) hp (Nat.le_refl _)
    rw [List.append_nil] at this
    rw [this]
    unfold afterW
    rw [if_neg t0, if_neg t255]
set_option maxHeartbeats 4000000 in
theorem unp_l0 (r : List UInt8) (hr : r.length ≤ 100000000) : ∀ (n k : Nat) (o : List UInt8) (p : Nat), 2 * n + 40 ≤ k → o.length ≤ 1600 → p ≤ r.length → r.length - p < n →
    spec_Unpack.l0 k (B r) (B o) p = some (finU o (unpL n (r.drop p))) := by
  intro n
  induction n with
  | zero => intro k o p _ _ _ h; omega
  | succ n ih =>
    intro k o p hk ho hp hn
    obtain ⟨k, rfl⟩ : ∃ m, k = m + 1 := ⟨k - 1, by omega⟩
    obtain ⟨k, rfl⟩ : ∃ m, k = m + 1 := ⟨k - 1, by omega⟩
    simp only [spec_Unpack.l0]
    rw [B_size]
    by_cases hlt : p < r.length
    · have hd : r.drop p = r[p] :: r.drop (p + 1) := List.drop_eq_getElem_cons hlt
      have hg : r.getD p 0 = r[p] := by rw [List.getD_eq_getElem?_getD, List.getElem?_eq_getElem hlt]; rfl
      have e1 : wrap64 ((p : Int) + 1) = ((p + 1 : Nat) : Int) := by rw [wrap64_id (by omega) (by omega)]; omega
      have hx : (B r).extract ((p + 1 : Nat) : Int).toNat r.length = B (r.drop (p + 1)) := by
        rw [Int.toNat_natCast, B_extract, List.take_of_length_le (Nat.le_refl _)]
      rw [if_pos (by omega), if_pos (by omega), e1, if_pos (by omega), if_pos (by omega), hx, B_bt, hg, hd]
      generalize r[p] = tag at *
      have hm : tag.toNat < 256 := tag.toNat_lt
      have e2 : wrap64 (tag.toNat : Int) = (tag.toNat : Int) := wrap64_id (by omega) (by omega)
      rw [e2, l3Word_f _ (by rw [List.length_drop]; omega) tag (k + 1) (by omega), Option.bind_some]
      simp only [unpL]
      cases hw : takeW tag 8 (r.drop (p + 1)) with
      | none => rfl
      | some wj =>
        obtain ⟨w, j⟩ := wj
        obtain ⟨h1, h2, h3⟩ := takeW_len tag 8 _ w j hw
        rw [List.length_drop] at h2
        have hpj : p + 1 + j ≤ r.length := by clear hr ih hg hx e1 e2 hd hw hk ho hn; omega
        have hnj : r.length - (p + 1 + j) < n := by clear hr ih hg hx e1 e2 hd hw hk ho h2; omega
        have hoj : (o ++ w).length ≤ 2000 := by rw [List.length_append]; clear hr ih hg hx e1 e2 hd hw hk hn h2; omega
        have e3 : wrap64 (((p + 1 : Nat) : Int) + (j : Int)) = ((p + 1 + j : Nat) : Int) := by rw [wrap64_id (by omega) (by omega)]; omega
        dsimp only
        rw [if_pos rfl, if_pos (by rw [B_size, B_size]; omega), B_append, e3, List.drop_drop, finU_map]
        have hj := unp_j1 r hr k n (by omega) (fun o p h1 h2 h3 => ih k o p (by omega) h1 h2 h3) (o ++ w) (p + 1 + j) tag hoj hpj hnj
        by_cases t0 : tag = 0
        · rw [if_pos ((tag0 tag).2 t0)]
          rw [decide_eq_true (Or.inl t0)] at hj
          exact hj
        · rw [if_neg (fun h => t0 ((tag0 tag).1 h))]
          have hb : ((tag.toNat : Int) == 255) = decide (tag = 0 ∨ tag = 255) := by
            by_cases t255 : tag = 255
            · rw [decide_eq_true (Or.inr t255), beq_iff_eq]; exact (tag255 tag).2 t255
            · rw [decide_eq_false (by rintro (h | h); exact t0 h; exact t255 h), beq_eq_false_iff_ne]; exact fun h => t255 ((tag255 tag).1 h)
          rw [hb]
          exact hj
    · rw [if_neg (by omega), List.drop_eq_nil_of_le (by omega)]
      simp only [unpL, finU]
      rw [List.append_nil, if_pos ho]
theorem specUnpack_f (s : ByteArray) (hs : s.size ≤ 100000000) (k : Nat) (hk : 2 * s.size + 50 ≤ k) : spec_Unpack.f k s = some (unpV s) := by
  unfold spec_Unpack.f unpV
  have hl : s.data.toList.length = s.size := data_length s
  have := unp_l0 s.data.toList (by omega) (s.size + 1) k [] 0 (by omega) (by simp) (by omega) (by omega)
  rw [B_of, List.drop_zero] at this
  exact this
end Go.Proofs.YteocobbddngllaaDoor.Lem
end
section
namespace Go.Proofs.YteocobbddngllaaDoor.Lem
set_option linter.unusedVariables false
set_option linter.unusedSimpArgs false
open Go Go.RowKit Go.Proofs.YteocobbddngllaaDoor Go.Proofs.YteocobbddngllaaDoor.P Go.Proofs.YteocobbddngllaaDoorW.PrintWords Go.Proofs.YteocobbddngllaaDoorW.PrintLast Go.Proofs.YteocobbddngllaaDoorW.PrintMore
theorem repeat_zero (n : Nat) : Lib.repeatL [0] n = zeros n := by
  induction n with
  | zero => rfl
  | succ n ih => show [0] ++ Lib.repeatL [0] n = _; rw [ih]; rfl
theorem take_f (t : List UInt8) (bad : Bool) (n : Nat) (hn : n ≤ 100000) :
    impl_taker_take.f (B t) bad n = some (if n ≤ t.length then (B (t.take n), B (t.drop n), bad) else (B (zeros n), B t, true)) := by
  unfold impl_taker_take.f
  rw [B_size]
  by_cases h : n ≤ t.length
  · have e1 : (B t).extract 0 (n : Int).toNat = B (t.take n) := by rw [Int.toNat_natCast, B_extract, List.drop_zero]
    have e2 : (B t).extract (n : Int).toNat t.length = B (t.drop n) := by rw [Int.toNat_natCast, B_extract, List.take_of_length_le (Nat.le_refl _)]
    rw [if_neg (by omega), if_pos (by omega), if_pos (by omega), if_pos h, e1, e2]
  · rw [if_pos (by omega), if_neg h]
    unfold strings_Repeat.f
    rw [if_pos ⟨rfl, by omega, by omega⟩, Int.toNat_natCast]
    show Option.bind (some (⟨(Lib.repeatL [0] n).toArray⟩ : ByteArray)) _ = _
    rw [repeat_zero]; rfl
theorem take_nil (bad : Bool) : impl_taker_take.f (B []) bad 1 = some (B [0], B [], true) := take_f [] bad 1 (by omega)
theorem take_cons (b : UInt8) (t : List UInt8) (bad : Bool) : impl_taker_take.f (B (b :: t)) bad 1 = some (B [b], B t, bad) := by
  have h := take_f (b :: t) bad 1 (by omega)
  rw [if_pos (by rw [List.length_cons]; omega)] at h
  exact h
theorem take_yes (t : List UInt8) (bad : Bool) (n : Nat) (hn : n ≤ 100000) (h : n ≤ t.length) : impl_taker_take.f (B t) bad n = some (B (t.take n), B (t.drop n), bad) := by
  rw [take_f t bad n hn, if_pos h]
theorem take_no (t : List UInt8) (bad : Bool) (n : Nat) (hn : n ≤ 100000) (h : ¬ n ≤ t.length) : impl_taker_take.f (B t) bad n = some (B (zeros n), B t, true) := by
  rw [take_f t bad n hn, if_neg h]
theorem one_byte (m : UInt8) : bt (B [m]) 0 = (m.toNat : Int) := B_bt [m] 0
theorem eight (m : UInt8) : wrap64 (8 * wrap64 (m.toNat : Int)) = ((8 * m.toNat : Nat) : Int) := by
  have hm : m.toNat < 256 := m.toNat_lt
  rw [wrap64_id (n := (m.toNat : Int)) (by omega) (by omega), wrap64_id (by omega) (by omega)]; omega
/-- What one take hands out, when something was missing before. -/
theorem take_bad (t : List UInt8) (n : Nat) (hn : n ≤ 100000) : ∃ u t', impl_taker_take.f (B t) true n = some (B u, B t', true) ∧ u.length = n ∧ t'.length ≤ t.length := by
  rw [take_f t true n hn]
  by_cases h : n ≤ t.length
  · exact ⟨t.take n, t.drop n, by rw [if_pos h], by rw [List.length_take]; omega, by rw [List.length_drop]; omega⟩
  · exact ⟨zeros n, t, by rw [if_neg h], zeros_length n, Nat.le_refl _⟩
theorem j1_bad (k : Nat) (x : List Int) (t : List UInt8) : impl_Unpack.j1 (k + 1) x false (B t) true = some (B [], false) := by
  simp only [impl_Unpack.j1]
  rw [if_neg (by decide), if_pos trivial]; rfl
theorem l0_bad (k : Nat) (x : List Int) (t : List UInt8) (hk : 2 ≤ k) : impl_Unpack.l0 k x (B t) true = some (B [], false) := by
  obtain ⟨k, rfl⟩ : ∃ m, k = m + 1 + 1 := ⟨k - 2, by omega⟩
  simp only [impl_Unpack.l0]
  rw [if_pos trivial]
  by_cases h : (B t).toList = []
  · rw [if_pos h]; exact j1_bad k x t
  · rw [if_neg h]; exact j1_bad k x t
/-- Once something is missing, nothing is unpacked. -/
theorem l1_bad (tag : UInt8) : ∀ (d k i : Nat) (x : List Int) (t : List UInt8), i + d = 8 → d + 5 ≤ k → x.length + d ≤ 100000 →
    impl_Unpack.l1 k x (tag.toNat : Int) i (B t) true = some (B [], false) := by
  intro d
  induction d with
  | zero =>
    intro k i x t hi hk hx
    obtain ⟨k, rfl⟩ : ∃ m, k = m + 1 := ⟨k - 1, by omega⟩
    simp only [impl_Unpack.l1]
    rw [if_neg (by omega)]
    have h1 : ((1 : Nat) : Int) = 1 := rfl
    by_cases t0 : (tag.toNat : Int) = 0
    · rw [if_pos t0]
      obtain ⟨u, t1, e, hu, ht⟩ := take_bad t 1 (by omega)
      rw [h1] at e
      rw [e, Option.bind_some]
      dsimp only
      rw [if_pos (by rw [B_size, hu]; decide)]
      obtain ⟨m, rfl⟩ : ∃ m, u = [m] := by match u, hu with | [m], _ => exact ⟨m, rfl⟩
      have hm : m.toNat < 256 := m.toNat_lt
      rw [one_byte, eight, if_pos (by omega), Int.toNat_natCast, if_pos (by omega)]
      exact l0_bad k _ t1 (by omega)
    · rw [if_neg t0]
      by_cases t255 : (tag.toNat : Int) = 255
      · rw [if_pos t255]
        obtain ⟨u, t1, e, hu, ht⟩ := take_bad t 1 (by omega)
        rw [h1] at e
        rw [e, Option.bind_some]
        dsimp only
        rw [if_pos (by rw [B_size, hu]; decide)]
        obtain ⟨m, rfl⟩ : ∃ m, u = [m] := by match u, hu with | [m], _ => exact ⟨m, rfl⟩
        have hm : m.toNat < 256 := m.toNat_lt
        obtain ⟨u2, t2, e2, hu2, ht2⟩ := take_bad t1 (8 * m.toNat) (by omega)
        rw [one_byte, eight, e2, Option.bind_some]
        dsimp only
        rw [B_size, if_pos (by omega)]
        exact l0_bad k _ t2 (by omega)
      · rw [if_neg t255]
        exact l0_bad k _ t (by omega)
  | succ d ih =>
    intro k i x t hi hk hx
    obtain ⟨k, rfl⟩ : ∃ m, k = m + 1 := ⟨k - 1, by omega⟩
    simp only [impl_Unpack.l1]
    have e2 : wrap64 ((i : Int) + 1) = ((i + 1 : Nat) : Int) := by rw [wrap64_id (by omega) (by omega)]; omega
    rw [if_pos (by omega), if_pos (by omega), e2]
    by_cases hb : bitB tag i = true
    · rw [if_pos ((bitB_u8 tag i (by omega)).2 hb)]
      obtain ⟨u, t1, e, hu, ht⟩ := take_bad t 1 (by omega)
      have h1 : ((1 : Nat) : Int) = 1 := rfl
      rw [h1] at e
      rw [e, Option.bind_some]
      dsimp only
      rw [B_size, if_pos (by omega)]
      exact ih k (i + 1) _ t1 (by omega) (by omega) (by rw [List.length_append, B_nums, nums_length, hu]; omega)
    · rw [if_neg (fun h => hb ((bitB_u8 tag i (by omega)).1 h)), if_pos (by omega)]
      exact ih k (i + 1) _ t (by omega) (by omega) (by rw [List.length_append, List.length_singleton]; omega)
/-- A word, bit by bit. -/
theorem l1_word (tag : UInt8) : ∀ (d k i : Nat) (o t : List UInt8), i + d = 8 → 20 ≤ k → o.length + d ≤ 10000 →
    impl_Unpack.l1 (k + d) (nums o) (tag.toNat : Int) i (B t) false = match takeW tag d t with
      | some (w, j) => impl_Unpack.l1 k (nums (o ++ w)) (tag.toNat : Int) 8 (B (t.drop j)) false
      | none => some (B [], false) := by
  intro d
  induction d with
  | zero =>
    intro k i o t hi hk ho
    obtain rfl : i = 8 := by omega
    simp only [takeW, List.append_nil, List.drop_zero]
    rfl
  | succ d ih =>
    intro k i o t hi hk ho
    show impl_Unpack.l1 ((k + d) + 1) _ _ _ _ _ = _
    simp only [impl_Unpack.l1, takeW]
    have e2 : wrap64 ((i : Int) + 1) = ((i + 1 : Nat) : Int) := by rw [wrap64_id (by omega) (by omega)]; omega
    have e7 : 7 - d = i := by omega
    rw [if_pos (by omega), if_pos (by omega), e2, e7]
    by_cases hb : bitB tag i = true
    · rw [if_pos ((bitB_u8 tag i (by omega)).2 hb), if_pos hb]
      cases t with
      | nil =>
        rw [take_nil, Option.bind_some]
        dsimp only
        rw [nums_length, B_size, List.length_singleton, if_pos (by omega)]
        exact l1_bad tag d (k + d) (i + 1) _ [] (by omega) (by omega) (by rw [List.length_append, B_nums, nums_length, nums_length, List.length_singleton]; omega)
      | cons b t =>
        rw [take_cons, Option.bind_some]
        dsimp only
        rw [nums_length, B_size, List.length_singleton, if_pos (by omega), B_nums, ← nums_append, ih k (i + 1) (o ++ [b]) t (by omega) hk (by rw [List.length_append, List.length_singleton]; omega)]
        cases takeW tag d t with
        | none => rfl
        | some p =>
          obtain ⟨w, j⟩ := p
          simp only [Option.map_some, List.append_assoc, List.singleton_append, List.drop_succ_cons]
    · rw [if_neg (fun h => hb ((bitB_u8 tag i (by omega)).1 h)), if_neg hb, nums_length, if_pos (by omega)]
      have hna : nums o ++ [(0 : Int)] = nums (o ++ [0]) := by rw [nums_append]; rfl
      rw [hna, ih k (i + 1) (o ++ [0]) t (by omega) hk (by rw [List.length_append, List.length_singleton]; omega)]
      cases takeW tag d t with
      | none => rfl
      | some p =>
        obtain ⟨w, j⟩ := p
        simp only [Option.map_some, List.append_assoc, List.singleton_append]
/-- What stands behind a word. -/
theorem l1_after (tag : UInt8) (k : Nat) (o t : List UInt8) (hk : 20 ≤ k) (ho : o.length ≤ 2000) (rec : List UInt8 → Option (List UInt8))
    (ih : ∀ (o2 t2 : List UInt8), o2.length ≤ 10000 → t2.length ≤ t.length → impl_Unpack.l0 k (nums o2) (B t2) false = some (finU o2 (rec t2))) :
    impl_Unpack.l1 (k + 1) (nums o) (tag.toNat : Int) 8 (B t) false = some (finU o (afterW tag t rec)) := by
  simp only [impl_Unpack.l1]
  rw [if_neg (by decide)]
  unfold afterW
  by_cases t0 : tag = 0
  · rw [if_pos ((tag0 tag).2 t0), if_pos t0]
    cases t with
    | nil =>
      rw [take_nil, Option.bind_some]
      dsimp only
      rw [B_size, if_pos (by simp), one_byte, eight, if_pos (by omega), Int.toNat_natCast, nums_length, if_pos (by have : (0 : UInt8).toNat = 0 := rfl; omega)]
      exact l0_bad k _ [] (by omega)
    | cons m t =>
      rw [take_cons, Option.bind_some]
      dsimp only
      have hm : m.toNat < 256 := m.toNat_lt
      rw [B_size, if_pos (by simp), one_byte, eight, if_pos (by omega), Int.toNat_natCast, nums_length, if_pos (by omega), finU_map]
      have hna : nums o ++ List.replicate (8 * m.toNat) (0 : Int) = nums (o ++ zeros (8 * m.toNat)) := by
        rw [nums_append]; congr 1; unfold nums zeros; rw [List.map_replicate]; rfl
      rw [hna]
      exact ih _ t (by rw [List.length_append, zeros_length]; omega) (by rw [List.length_cons]; omega)
  · rw [if_neg (fun h => t0 ((tag0 tag).1 h)), if_neg t0]
    by_cases t255 : tag = 255
    · rw [if_pos ((tag255 tag).2 t255), if_pos t255]
      cases t with
      | nil =>
        rw [take_nil, Option.bind_some]
        dsimp only
        obtain ⟨u2, t2, e2, hu2, ht2⟩ := take_bad [] (8 * (0 : UInt8).toNat) (by decide)
        rw [B_size, if_pos (by simp), one_byte, eight, e2, Option.bind_some]
        dsimp only
        rw [nums_length, B_size, hu2, if_pos (by have : (0 : UInt8).toNat = 0 := rfl; omega)]
        exact l0_bad k _ _ (by omega)
      | cons m t =>
        rw [take_cons, Option.bind_some]
        dsimp only
        have hm : m.toNat < 256 := m.toNat_lt
        rw [B_size, if_pos (by simp), one_byte, eight]
        by_cases hl : 8 * m.toNat ≤ t.length
        · rw [take_yes t false _ (by omega) hl, Option.bind_some, if_pos hl]
          dsimp only
          rw [nums_length, B_size, List.length_take, if_pos (by omega), B_nums, ← nums_append, finU_map]
          exact ih _ _ (by rw [List.length_append, List.length_take]; omega) (by rw [List.length_drop, List.length_cons]; omega)
        · rw [take_no t false _ (by omega) hl, Option.bind_some, if_neg hl]
          dsimp only
          rw [nums_length, B_size, zeros_length, if_pos (by omega)]
          exact l0_bad k _ _ (by omega)
    · rw [if_neg (fun h => t255 ((tag255 tag).1 h)), if_neg t255]
      exact ih o t (by omega) (Nat.le_refl _)
theorem unpI_l0 : ∀ (n k : Nat) (o t : List UInt8), 12 * n + 40 ≤ k → o.length ≤ 10000 → t.length < n →
    impl_Unpack.l0 k (nums o) (B t) false = some (finU o (unpL n t)) := by
  intro n
  induction n with
  | zero => intro k o t _ _ h; omega
  | succ n ih =>
    intro k o t hk ho hn
    obtain ⟨k, rfl⟩ : ∃ m, k = m + 1 + 8 + 1 + 1 := ⟨k - 11, by omega⟩
    simp only [impl_Unpack.l0]
    rw [B_toList]
    have out : ∀ z, t = [] ∨ 1600 < o.length → z = finU o (unpL (n + 1) t) → impl_Unpack.j1 (k + 1 + 8 + 1) (nums o) false (B t) false = some z := by
      intro z h hz
      simp only [impl_Unpack.j1]
      rw [if_neg (by decide), if_neg (by decide), nums_length]
      by_cases hl : 1600 < o.length
      · rw [if_pos (by omega), hz, finU_long _ hl]; rfl
      · rw [if_neg (by omega)]
        rcases h with rfl | h
        · rw [hz]; simp only [unpL, finU]; rw [List.append_nil, if_pos (by omega), B_strOf]
        · exact absurd h hl
    cases t with
    | nil => rw [if_pos rfl]; exact out _ (Or.inl rfl) rfl
    | cons tag t =>
      rw [if_neg (by simp), if_neg (by decide), nums_length]
      by_cases hl : 1600 < o.length
      · rw [decide_eq_false (by omega)]; exact out _ (Or.inr hl) rfl
      · rw [decide_eq_true (by omega)]
        simp only [impl_Unpack.j1, unpL]
        rw [if_pos trivial, take_cons, Option.bind_some]
        dsimp only
        rw [B_size, if_pos (by simp), one_byte]
        have hw := l1_word tag 8 (k + 1) 0 o t (by omega) (by omega) (by omega)
        have h0 : ((0 : Nat) : Int) = 0 := rfl
        rw [h0] at hw
        rw [hw]
        cases hT : takeW tag 8 t with
        | none => rfl
        | some p =>
          obtain ⟨w, j⟩ := p
          obtain ⟨z1, z2, z3⟩ := takeW_len tag 8 t w j hT
          dsimp only
          rw [finU_map]
          rw [List.length_cons] at hn
          exact l1_after tag k (o ++ w) (t.drop j) (by omega) (by rw [List.length_append]; omega) (unpL n) (fun o2 t2 h1 h2 => ih k o2 t2 (by omega) h1 (by rw [List.length_drop] at h2; omega))
theorem implUnpack_f (s : ByteArray) (k : Nat) (hk : 12 * s.size + 60 ≤ k) : impl_Unpack.f k s = some (unpV s) := by
  unfold impl_Unpack.f unpV
  have hl : s.data.toList.length = s.size := data_length s
  have := unpI_l0 (s.size + 1) k [] s.data.toList (by omega) (by simp) (by omega)
  rw [B_of] at this
  exact this
end Go.Proofs.YteocobbddngllaaDoor.Lem
end
section
namespace Go.Proofs.YteocobbddngllaaDoor.Lem
set_option linter.unusedVariables false
open Go Go.RowKit Go.Proofs.YteocobbddngllaaDoor Go.Proofs.YteocobbddngllaaDoor.P Go.Proofs.YteocobbddngllaaDoorW.PrintWords Go.Proofs.YteocobbddngllaaDoorW.PrintLast Go.Proofs.YteocobbddngllaaDoorW.PrintMore
theorem drawPack_f (k : Nat) (l : List Int) (hk : 1100 ≤ k) (hl : ∀ x ∈ l, (Lit.int .u8 x).wf = true) : ∃ s, spec_DrawPack.f k l = some s ∧ s.size ≤ 3000 := by
  unfold spec_DrawPack.f
  obtain ⟨b, hb, hB⟩ := open_f l hl
  rw [hb]
  simp only [Option.bind_some]
  obtain ⟨v, hv, h0, hv1⟩ := pick_f k b 0 4 (by omega) hB (by omega) (by omega)
  rw [hv]
  simp only [Option.bind_some]
  by_cases c0 : v = 0
  · rw [if_pos c0]
    obtain ⟨u, hu, hu0, hu1⟩ := pick_f k b (0 + 1) 40 (by omega) hB (by omega) (by omega)
    rw [hu]
    simp only [Option.bind_some]
    have hu2 := hu1 (by omega)
    have h1z : (⟨#[0]⟩ : ByteArray).size = 1 := rfl
    have h8z : (⟨#[97, 98, 99, 100, 101, 102, 103, 104]⟩ : ByteArray).size = 8 := rfl
    rw [wrap64_id (n := 8 * u) (by omega) (by omega)]
    obtain ⟨q, hq, hqz⟩ := many_f k ⟨#[0]⟩ (8 * u) (by omega) (by omega) (by omega) (by rw [h1z]; omega) (by rw [h1z]; omega)
    rw [hq]
    simp only [Option.bind_some]
    obtain ⟨r, p1, h1, hz, _, hp1, hp2⟩ := words_f k b (0 + 1 + 1) 3 hB (by omega) (by omega) (by omega) (by omega) (by omega)
    have hz' : r.size ≤ 24 := hz
    rw [h1]
    simp only [Option.bind_some]
    rw [h1z] at hqz
    rw [if_pos (by omega)]
    obtain ⟨x, hx, hx0, hx1⟩ := pick_f k b p1 5 (by omega) hB (by omega) (by omega)
    rw [hx]
    simp only [Option.bind_some]
    have hx2 := hx1 (by omega)
    obtain ⟨y, hy, hyz⟩ := many_f k ⟨#[97, 98, 99, 100, 101, 102, 103, 104]⟩ x (by omega) (by omega) (by omega) (by rw [h8z]; omega) (by rw [h8z]; omega)
    rw [hy]
    simp only [Option.bind_some]
    rw [h8z] at hyz
    rw [if_pos (by rw [ByteArray.size_append]; omega)]
    exact ⟨_, rfl, by rw [ByteArray.size_append, ByteArray.size_append]; omega⟩
  · rw [if_neg c0]
    obtain ⟨r, p1, h1, hz, _, _⟩ := anyWords_f k b (0 + 1) hB (by omega) (by omega) (by omega)
    rw [h1]
    simp only [Option.bind_some]
    exact ⟨r, rfl, by omega⟩
theorem cut_f (k : Nat) (b : List Int) (p : Int) (a : ByteArray) (hb : Bytes b) (hk : 2 ≤ k) (hp : 0 ≤ p) (hP : p ≤ 100000) (ha : a.size ≤ 500000) : ∃ r p', spec_l13Cut.f k b p a = some (r, p') ∧ r.size ≤ 600000 := by
  unfold spec_l13Cut.f
  rw [wrap64_id (n := (a.size : Int) + 1) (by omega) (by omega)]
  obtain ⟨v, hv, h0, hv1⟩ := pick_f k b p ((a.size : Int) + 1) (by omega) hb hp (by omega)
  have hv2 := hv1 (by omega)
  rw [hv]
  simp only [Option.bind_some]
  obtain ⟨u, hu, hu0, hu1⟩ := pick_f k b (p + 1) 6 (by omega) hb (by omega) (by omega)
  rw [hu]
  simp only [Option.bind_some]
  have e1 : (a.extract 0 v.toNat).size = v.toNat := by rw [ByteArray.size_extract]; omega
  have e2 : (a.extract v.toNat a.size).size = a.size - v.toNat := by rw [ByteArray.size_extract]; omega
  by_cases c0 : u = 0
  · rw [if_pos c0, if_pos (by omega), if_pos (by omega)]
    obtain ⟨s, hs, he⟩ := of_f k b (p + 1 + 1) [(⟨#[0]⟩ : ByteArray), ⟨#[1]⟩, ⟨#[255]⟩, ⟨#[120]⟩] (by simp) (by simp) (by omega) hb (by omega) (by omega)
    have hsz : s.size = 1 := by
      simp only [List.mem_cons, List.not_mem_nil, or_false] at hs
      rcases hs with rfl | rfl | rfl | rfl <;> rfl
    rw [he]
    simp only [Option.bind_some]
    rw [if_pos (by omega), if_pos (by rw [ByteArray.size_append]; omega)]
    exact ⟨_, _, rfl, by rw [ByteArray.size_append, ByteArray.size_append]; omega⟩
  · rw [if_neg c0]
    by_cases c1 : u = 1
    · rw [if_pos c1, if_pos (by omega), if_pos (by omega)]
      exact ⟨_, _, rfl, by omega⟩
    · rw [if_neg c1]
      by_cases c2 : u = 2
      · rw [if_pos c2]
        by_cases c3 : v < (a.size : Int)
        · rw [if_pos c3, if_pos (by omega), if_pos (by omega)]
          obtain ⟨x, hx, hx0, hx1⟩ := pick_f k b (p + 1 + 1) 256 (by omega) hb (by omega) (by omega)
          rw [hx]
          simp only [Option.bind_some]
          have e3 : (a.extract (v + 1).toNat a.size).size = a.size - (v + 1).toNat := by rw [ByteArray.size_extract]; omega
          have e4 : (strOfNums [x % 256]).size = 1 := by rw [strOfNums_size]; rfl
          rw [wrap64_id (n := v + 1) (by omega) (by omega), if_pos (by omega), if_pos (by omega), if_pos (by omega), if_pos (by rw [ByteArray.size_append]; omega)]
          exact ⟨_, _, rfl, by rw [ByteArray.size_append, ByteArray.size_append]; omega⟩
        · rw [if_neg c3]; exact ⟨_, _, rfl, by omega⟩
      · rw [if_neg c2]; exact ⟨_, _, rfl, by omega⟩
theorem drawUnpack_f (k : Nat) (l : List Int) (hk : 1000000 ≤ k) (hl : ∀ x ∈ l, (Lit.int .u8 x).wf = true) : ∃ s, spec_DrawUnpack.f k l = some s ∧ s.size ≤ 600000 := by
  unfold spec_DrawUnpack.f
  obtain ⟨b, hb, hB⟩ := open_f l hl
  rw [hb]
  simp only [Option.bind_some]
  obtain ⟨r, p1, h1, hz, h8, hp1, hp2⟩ := words_f k b 0 6 hB (by omega) (by omega) (by omega) (by omega) (by omega)
  have hz' : r.size ≤ 48 := hz
  rw [h1]
  simp only [Option.bind_some]
  rw [l3Pack_f r h8 (by omega) k (by omega), Option.bind_some]
  have hps : (packV r).size ≤ 500000 := by
    unfold packV
    rw [B_size]
    have := packL_len (r.size + 1) r.data.toList
    omega
  generalize packV r = q at *
  obtain ⟨s, p', hs, hsz⟩ := cut_f k b p1 q hB (by omega) (by omega) (by omega) hps
  rw [hs, Option.bind_some]
  exact ⟨s, rfl, hsz⟩
end Go.Proofs.YteocobbddngllaaDoor.Lem
end
section
namespace Go.Proofs.YteocobbddngllaaDoor.Lem
set_option linter.unusedVariables false
open Go Go.RowKit Go.Proofs.YteocobbddngllaaDoor Go.Proofs.YteocobbddngllaaDoor.P Go.Proofs.YteocobbddngllaaDoorW.PrintWords Go.Proofs.YteocobbddngllaaDoorW.PrintLast Go.Proofs.YteocobbddngllaaDoorW.PrintMore
theorem packV_pk (s : ByteArray) : packV s = B (pk s.data.toList) := by unfold packV pk; rw [data_length]
theorem packV_B (t : List UInt8) : packV (B t) = B (pk t) := by rw [packV_pk, B_data]
theorem unpV_unp (t : List UInt8) : unpV (B t) = finU [] (unp t) := by unfold unpV unp; rw [B_size, B_data]
def packW (s : ByteArray) : ByteArray := if IsW s then packV s else ⟨#[]⟩
theorem implPack_f (s : ByteArray) : impl_Pack.f s = some (packW s) := rfl
theorem specPackW_f (s : ByteArray) (k : Nat) (hk : 1000000 ≤ k) : spec_Pack.f k s = some (packW s) := specPack_f s k hk
theorem packW_size (s : ByteArray) : (packW s).size ≤ 5000000 := by
  unfold packW
  by_cases h : IsW s
  · rw [if_pos h]
    have h2 : (s.size : Int) ≤ 1600 := h.2
    have := packL_len (s.size + 1) s.data.toList
    unfold packV
    rw [B_size]; omega
  · rw [if_neg h]; exact Nat.zero_le _
theorem isW_len {s : ByteArray} (h : IsW s) : s.data.toList.length % 8 = 0 ∧ s.data.toList.length ≤ 1600 := by
  have h1 : (s.size : Int) % 8 = 0 := h.1
  have h2 : (s.size : Int) ≤ 1600 := h.2
  rw [data_length]; omega
theorem unp_back (s : ByteArray) (h : IsW s) : unpV (packW s) = (s, true) := by
  obtain ⟨h1, h2⟩ := isW_len h
  unfold packW
  rw [if_pos h, packV_pk, unpV_unp, unp_pk_id _ h1]
  simp only [finU, List.nil_append]
  rw [if_pos h2, B_of]
theorem unp_words : ∀ (n : Nat) (t o : List UInt8), unpL n t = some o → o.length % 8 = 0 := by
  intro n
  induction n with
  | zero => intro t o h; cases h
  | succ n ih =>
    intro t o h
    cases t with
    | nil => simp only [unpL, Option.some.injEq] at h; subst h; rfl
    | cons tag t =>
      simp only [unpL] at h
      cases hw : takeW tag 8 t with
      | none => rw [hw] at h; cases h
      | some p =>
        obtain ⟨w, j⟩ := p
        rw [hw] at h
        dsimp only at h
        have hwl := (takeW_len tag 8 t w j hw).1
        obtain ⟨y, hy, rfl⟩ := Option.map_eq_some_iff.1 h
        rw [List.length_append, hwl]
        unfold afterW at hy
        split at hy
        · cases hd : t.drop j with
          | nil => rw [hd] at hy; cases hy
          | cons m u =>
            rw [hd] at hy
            obtain ⟨z, hz, rfl⟩ := Option.map_eq_some_iff.1 hy
            have := ih u z hz
            rw [List.length_append, zeros_length]; omega
        · split at hy
          · cases hd : t.drop j with
            | nil => rw [hd] at hy; cases hy
            | cons m u =>
              rw [hd] at hy
              dsimp only at hy
              split at hy
              · obtain ⟨z, hz, rfl⟩ := Option.map_eq_some_iff.1 hy
                have := ih _ z hz
                rw [List.length_append, List.length_take]; omega
              · cases hy
          · have := ih _ y hy; omega
theorem unpV_words (s : ByteArray) (h : (unpV s).2 = true) : IsW (unpV s).1 := by
  unfold unpV at h ⊢
  cases hu : unpL (s.size + 1) s.data.toList with
  | none => rw [hu] at h; cases h
  | some o =>
    have h8 := unp_words _ _ o hu
    rw [hu] at h
    simp only [finU, List.nil_append] at h ⊢
    by_cases hl : o.length ≤ 1600
    · rw [if_pos hl]
      unfold IsW
      dsimp only
      rw [B_size]; omega
    · rw [if_neg hl] at h; cases h
end Go.Proofs.YteocobbddngllaaDoor.Lem
end
