/- Plain facts, merged out of several texts: LemBits, LemB, LemUnp, LemPack, LemPackLaw, LemPackLen. -/
import Derived.Laws.BitsAllLaws
import Derived.RowKit
import Derived.OpenShut
import Derived.Test.YteocobbddngllaaDoorV2
import Derived.Lib.SplitLaws
import Derived.Lib.Replace
import Derived.Lib.IndexBytes
section
namespace Go.Proofs.YteocobbddngllaaDoor.Lem
set_option linter.unusedVariables false
open Go Go.RowKit

theorem wrap64_eq (n : Int) : IntKind.i64.wrap n = wrap64 n := by
  unfold wrap64
  simp [IntKind.wrap, IntKind.bits, IntKind.signed]
  split <;> omega
theorem wf_bounds {n : Int} (h : (Lit.int .i64 n).wf = true) : -9223372036854775808 ≤ n ∧ n < 9223372036854775808 := by
  have := bounds_i64 h
  omega
theorem wrap64_id {n : Int} (h0 : -9223372036854775808 ≤ n) (h1 : n < 9223372036854775808) : wrap64 n = n := by unfold wrap64; omega
theorem wrap64_wrap (n : Int) : wrap64 (wrap64 n) = wrap64 n := by unfold wrap64; omega
theorem u64_id {n : Int} (h0 : 0 ≤ n) (h1 : n < 18446744073709551616) : IntKind.u64.wrap n = n := by rw [IntKind.wrap_u64]; omega

theorem ofInt_nat64 (a : Int) : (BitVec.ofInt 64 a).toNat = (a % 18446744073709551616).toNat := by
  rw [BitVec.toNat_ofInt]; rfl
theorem or_i64 (a b : Int) : Go.bits .or .i64 a b = wrap64 (((a % 18446744073709551616).toNat ||| (b % 18446744073709551616).toNat : Nat) : Int) := by
  show IntKind.i64.wrap ((BitVec.ofInt 64 a ||| BitVec.ofInt 64 b).toNat : Int) = _
  rw [BitVec.toNat_or, ofInt_nat64, ofInt_nat64, wrap64_eq]
theorem and_i64 (a b : Int) : Go.bits .and .i64 a b = wrap64 (((a % 18446744073709551616).toNat &&& (b % 18446744073709551616).toNat : Nat) : Int) := by
  show IntKind.i64.wrap ((BitVec.ofInt 64 a &&& BitVec.ofInt 64 b).toNat : Int) = _
  rw [BitVec.toNat_and, ofInt_nat64, ofInt_nat64, wrap64_eq]
theorem xor_i64 (a b : Int) : Go.bits .xor .i64 a b = wrap64 (((a % 18446744073709551616).toNat ^^^ (b % 18446744073709551616).toNat : Nat) : Int) := by
  show IntKind.i64.wrap ((BitVec.ofInt 64 a ^^^ BitVec.ofInt 64 b).toNat : Int) = _
  rw [BitVec.toNat_xor, ofInt_nat64, ofInt_nat64, wrap64_eq]
theorem or_u64 (a b : Int) : Go.bits .or .u64 a b = IntKind.u64.wrap (((a % 18446744073709551616).toNat ||| (b % 18446744073709551616).toNat : Nat) : Int) := by
  show IntKind.u64.wrap ((BitVec.ofInt 64 a ||| BitVec.ofInt 64 b).toNat : Int) = _
  rw [BitVec.toNat_or, ofInt_nat64, ofInt_nat64]

/-- A byte joined to what has been moved up by one byte. -/
theorem join_i64 (x b : Int) (h0 : 0 ≤ b) (h1 : b ≤ 255) : Go.bits .or .i64 (wrap64 (x * 256)) b = wrap64 (x * 256 + b) := by
  rw [or_i64]
  have e1 : (wrap64 (x * 256) % 18446744073709551616).toNat = 256 * (x % 72057594037927936).toNat := by unfold wrap64; omega
  have e2 : (b % 18446744073709551616).toNat = b.toNat := by omega
  rw [e1, e2, nat_join 8 _ _ (by omega) (by omega)]
  unfold wrap64; omega
theorem join_u64 (x b : Int) (h0 : 0 ≤ b) (h1 : b ≤ 255) : Go.bits .or .u64 (IntKind.u64.wrap (x * 256)) (IntKind.u64.wrap b) = IntKind.u64.wrap (x * 256 + b) := by
  rw [or_u64]
  have e1 : (IntKind.u64.wrap (x * 256) % 18446744073709551616).toNat = 256 * (x % 72057594037927936).toNat := by rw [IntKind.wrap_u64]; omega
  have e2 : (IntKind.u64.wrap b % 18446744073709551616).toNat = b.toNat := by rw [IntKind.wrap_u64]; omega
  rw [e1, e2, nat_join 8 _ _ (by omega) (by omega), IntKind.wrap_u64, IntKind.wrap_u64]
  omega
theorem and1_i64 (x : Int) (h0 : 0 ≤ x) (h1 : x < 9223372036854775808) : Go.bits .and .i64 x 1 = x % 2 := by
  rw [and_i64]
  have e1 : (x % 18446744073709551616).toNat = x.toNat := by omega
  have e2 : ((1 : Int) % 18446744073709551616).toNat = 1 := by decide
  rw [e1, e2, nat_mask1]
  unfold wrap64; omega
end Go.Proofs.YteocobbddngllaaDoor.Lem
end
section
namespace Go.Proofs.YteocobbddngllaaDoor.Lem
set_option linter.unusedVariables false
open Go Go.RowKit Go.Proofs.YteocobbddngllaaDoorW.PrintWords Go.Proofs.YteocobbddngllaaDoorW.PrintLast Go.Proofs.YteocobbddngllaaDoorW.PrintMore
theorem bt_data (s : ByteArray) (i : Nat) : bt s (i : Int) = (((s.data.toList[i]?).getD 0).toNat : Int) := by
  unfold bt
  have e : (i : Int).toNat = i := by omega
  rcases Nat.lt_or_ge i s.size with h | h
  · have hl : i < s.data.toList.length := by rw [data_length]; exact h
    rw [dif_pos (by rw [e]; exact h), List.getElem?_eq_getElem hl]
    simp only [e]; rfl
  · have hl : s.data.toList.length ≤ i := by rw [data_length]; exact h
    rw [dif_neg (by rw [e]; omega), List.getElem?_eq_none hl]; rfl
/-- A list of bytes, as a text. -/
def B (t : List UInt8) : ByteArray := ⟨t.toArray⟩
theorem B_data (t : List UInt8) : (B t).data.toList = t := by simp [B]
theorem B_of (s : ByteArray) : B s.data.toList = s := by unfold B; rw [Array.toArray_toList]
theorem B_size (t : List UInt8) : (B t).size = t.length := by rw [← data_length, B_data]
theorem B_inj {a b : List UInt8} (h : B a = B b) : a = b := by rw [← B_data a, h, B_data]
theorem B_append (a b : List UInt8) : B a ++ B b = B (a ++ b) := by
  apply ByteArray.ext
  rw [ByteArray.data_append]; simp [B]
theorem B_extract (t : List UInt8) (a b : Nat) : (B t).extract a b = B ((t.take b).drop a) := by
  apply ByteArray.ext
  rw [ByteArray.data_extract]
  apply Array.ext'
  rw [Array.toList_extract, List.extract_eq_take_drop, List.drop_take]
  simp [B]
theorem B_bt (t : List UInt8) (i : Nat) : bt (B t) (i : Int) = ((t.getD i 0).toNat : Int) := by
  rw [bt_data, B_data, List.getD_eq_getElem?_getD]
def nums (t : List UInt8) : List Int := t.map fun b => (b.toNat : Int)
theorem nums_length (t : List UInt8) : (nums t).length = t.length := by simp [nums]
theorem nums_append (a b : List UInt8) : nums (a ++ b) = nums a ++ nums b := by simp [nums]
theorem B_nums (t : List UInt8) : bytesOf (B t) = nums t := by unfold bytesOf; rw [B_data]; rfl
theorem B_strOf (t : List UInt8) : strOfNums (nums t) = B t := by
  unfold strOfNums nums B
  rw [List.map_map]
  congr 2
  conv => rhs; rw [← List.map_id t]
  apply List.map_congr_left
  intro b _
  simp
theorem B_toList (t : List UInt8) : (B t).toList = t := by rw [ByteArray.toList_eq, B_data]
end Go.Proofs.YteocobbddngllaaDoor.Lem
end
section
namespace Go.Proofs.YteocobbddngllaaDoor.Lem
set_option linter.unusedVariables false
open Go Go.RowKit Go.Proofs.YteocobbddngllaaDoorW.PrintWords Go.Proofs.YteocobbddngllaaDoorW.PrintLast Go.Proofs.YteocobbddngllaaDoorW.PrintMore
def bitB (tag : UInt8) (i : Nat) : Bool := tag.toNat / 2 ^ i % 2 == 1
/-- A word by its tag, of d bytes yet, and how many bytes it takes. -/
def takeW (tag : UInt8) : Nat → List UInt8 → Option (List UInt8 × Nat)
  | 0, _ => some ([], 0)
  | d + 1, t => if bitB tag (7 - d) = true then (match t with | [] => none | b :: t => (takeW tag d t).map fun p => (b :: p.1, p.2 + 1)) else (takeW tag d t).map fun p => ((0 : UInt8) :: p.1, p.2)
theorem takeW_len (tag : UInt8) : ∀ (d : Nat) (t w : List UInt8) (j : Nat), takeW tag d t = some (w, j) → w.length = d ∧ j ≤ t.length ∧ j ≤ d := by
  intro d
  induction d with
  | zero => intro t w j h; simp only [takeW, Option.some.injEq, Prod.mk.injEq] at h; obtain ⟨rfl, rfl⟩ := h; exact ⟨rfl, by omega, by omega⟩
  | succ d ih =>
    intro t w j h
    simp only [takeW] at h
    by_cases hb : bitB tag (7 - d) = true
    · rw [if_pos hb] at h
      cases t with
      | nil => cases h
      | cons b t =>
        obtain ⟨⟨w', j'⟩, h1, h2⟩ := Option.map_eq_some_iff.1 h
        simp only [Prod.mk.injEq] at h2
        obtain ⟨rfl, rfl⟩ := h2
        obtain ⟨h3, h4, h5⟩ := ih t w' j' h1
        exact ⟨by rw [List.length_cons, h3], by rw [List.length_cons]; omega, by omega⟩
    · rw [if_neg hb] at h
      obtain ⟨⟨w', j'⟩, h1, h2⟩ := Option.map_eq_some_iff.1 h
      simp only [Prod.mk.injEq] at h2
      obtain ⟨rfl, rfl⟩ := h2
      obtain ⟨h3, h4, h5⟩ := ih t w' j' h1
      exact ⟨by rw [List.length_cons, h3], h4, by omega⟩
def zeros (n : Nat) : List UInt8 := List.replicate n 0
theorem zeros_length (n : Nat) : (zeros n).length = n := by simp [zeros]
/-- What stands behind a word, by its tag. -/
def afterW (tag : UInt8) (t : List UInt8) (rec : List UInt8 → Option (List UInt8)) : Option (List UInt8) :=
  if tag = 0 then (match t with | [] => none | m :: t => (rec t).map fun y => zeros (8 * m.toNat) ++ y)
  else if tag = 255 then (match t with | [] => none | m :: t => if 8 * m.toNat ≤ t.length then (rec (t.drop (8 * m.toNat))).map fun y => t.take (8 * m.toNat) ++ y else none)
  else rec t
/-- The words of packed bytes. -/
def unpL : Nat → List UInt8 → Option (List UInt8)
  | 0, _ => none
  | n + 1, [] => some []
  | n + 1, tag :: t => match takeW tag 8 t with
    | none => none
    | some (w, j) => (afterW tag (t.drop j) (unpL n)).map fun y => w ++ y
/-- What is unpacked, behind some words. -/
def finU (o : List UInt8) (x : Option (List UInt8)) : ByteArray × Bool := match x with | some y => if (o ++ y).length ≤ 1600 then (B (o ++ y), true) else (B [], false) | none => (B [], false)
theorem finU_map (o a : List UInt8) (x : Option (List UInt8)) : finU o (x.map fun y => a ++ y) = finU (o ++ a) x := by
  cases x with
  | none => rfl
  | some y => simp only [finU, Option.map_some, List.append_assoc]
theorem finU_long {o : List UInt8} (x : Option (List UInt8)) (h : 1600 < o.length) : finU o x = (B [], false) := by
  cases x with
  | none => rfl
  | some y => simp only [finU]; rw [if_neg (by rw [List.length_append]; omega)]
def unpV (s : ByteArray) : ByteArray × Bool := finU [] (unpL (s.size + 1) s.data.toList)
theorem bit_i64 : ∀ (x : Fin 256) (i : Fin 8), (decide (Go.bits .and .i64 (shr .i64 ((x.1 : Nat) : Int) ((i.1 : Nat) : Int)) 1 = 0)) = !(x.1 / 2 ^ i.1 % 2 == 1) := by decide +kernel
theorem bit_u8 : ∀ (x : Fin 256) (i : Fin 8), (decide (Go.bits .and .u8 (shr .u8 ((x.1 : Nat) : Int) ((i.1 : Nat) : Int)) 1 = 1)) = (x.1 / 2 ^ i.1 % 2 == 1) := by decide +kernel
theorem bitB_i64 (tag : UInt8) (i : Nat) (h : i < 8) : (Go.bits .and .i64 (shr .i64 (tag.toNat : Int) (i : Int)) 1 = 0) ↔ ¬ bitB tag i = true := by
  have e : decide (Go.bits .and .i64 (shr .i64 (tag.toNat : Int) (i : Int)) 1 = 0) = !bitB tag i := bit_i64 ⟨tag.toNat, tag.toNat_lt⟩ ⟨i, h⟩
  generalize bitB tag i = b at e ⊢
  cases b <;> simpa using e
theorem bitB_u8 (tag : UInt8) (i : Nat) (h : i < 8) : (Go.bits .and .u8 (shr .u8 (tag.toNat : Int) (i : Int)) 1 = 1) ↔ bitB tag i = true := by
  have e : decide (Go.bits .and .u8 (shr .u8 (tag.toNat : Int) (i : Int)) 1 = 1) = bitB tag i := bit_u8 ⟨tag.toNat, tag.toNat_lt⟩ ⟨i, h⟩
  generalize bitB tag i = b at e ⊢
  cases b <;> simpa using e
theorem tag0 (tag : UInt8) : ((tag.toNat : Int) = 0) ↔ tag = 0 := by
  constructor
  · intro h; exact UInt8.toNat_inj.1 (by show tag.toNat = 0; omega)
  · rintro rfl; rfl
theorem tag255 (tag : UInt8) : ((tag.toNat : Int) = 255) ↔ tag = 255 := by
  constructor
  · intro h; exact UInt8.toNat_inj.1 (by show tag.toNat = 255; omega)
  · rintro rfl; rfl
end Go.Proofs.YteocobbddngllaaDoor.Lem
end
section
namespace Go.Proofs.YteocobbddngllaaDoor.Lem
set_option linter.unusedVariables false
open Go Go.RowKit Go.Proofs.YteocobbddngllaaDoorW.PrintWords Go.Proofs.YteocobbddngllaaDoorW.PrintLast Go.Proofs.YteocobbddngllaaDoorW.PrintMore
def notZero (b : UInt8) : Bool := b != 0
theorem replaceK_zero : ∀ s : List UInt8, Lib.replaceK [0] [] (s.count 0) s = s.filter notZero := by
  intro s
  induction s with
  | nil => rfl
  | cons b l ih =>
    by_cases hb : b = 0
    · subst hb
      have hi : Lib.index (0 :: l) [0] = ((0 : Nat) : Int) := by rw [Lib.index_one]; rfl
      rw [List.count_cons_self, Lib.replaceK_hit [0] [] _ _ 0 hi]
      have hf : (0 :: l).filter notZero = l.filter notZero := List.filter_cons_of_neg (by decide)
      rw [hf, ← ih]
      rfl
    · have hf : (b :: l).filter notZero = b :: l.filter notZero := List.filter_cons_of_pos (by unfold notZero; simpa using hb)
      rw [List.count_cons_of_ne (by exact hb), hf, ← ih]
      cases hk : l.count 0 with
      | zero => rfl
      | succ k =>
        obtain ⟨i, hi⟩ := Lib.index_of_count (s := l) (old := [0]) (by rw [Lib.count_one]; omega)
        have hi2 : Lib.index (b :: l) [0] = ((i + 1 : Nat) : Int) := by
          rw [Lib.index_one] at hi ⊢
          unfold Lib.indexByte
          rw [if_neg (by simpa using hb), if_neg (by rw [hi]; simp), hi]; omega
        rw [Lib.replaceK_hit _ _ _ _ _ hi2, Lib.replaceK_hit _ _ _ _ _ hi]
        simp only [List.take_succ_cons, List.append_nil, List.cons_append, List.length_singleton, List.drop_succ_cons]
theorem replaceAll_zero (s : List UInt8) : Lib.replaceAll s [0] [] = s.filter notZero := by
  unfold Lib.replaceAll Lib.replace
  rw [if_neg (by decide)]
  have : Lib.replaceNum s [0] (-1) = s.count 0 := by
    unfold Lib.replaceNum
    rw [if_pos (Or.inl (by decide)), Lib.count_one]
  rw [this]
  exact replaceK_zero s
/-- Which bytes of a word are not 0, from place i on. -/
def tagL : List UInt8 → Nat → Nat
  | [], _ => 0
  | b :: t, i => (if b = 0 then 0 else 2 ^ i) + tagL t (i + 1)
theorem tagL_lt : ∀ (t : List UInt8) (i : Nat), tagL t i ≤ 2 ^ (i + t.length) - 2 ^ i := by
  intro t
  induction t with
  | nil => intro i; simp [tagL]
  | cons b t ih =>
    intro i
    have h := ih (i + 1)
    have e : i + (t.length + 1) = i + 1 + t.length := by omega
    simp only [tagL, List.length_cons]
    rw [e]
    have hp : 2 ^ (i + 1) ≤ 2 ^ (i + 1 + t.length) := Nat.pow_le_pow_right (by decide) (by omega)
    have hq : 2 ^ (i + 1) = 2 * 2 ^ i := by rw [Nat.pow_succ]; omega
    split <;> omega
/-- How many words, at most so many, a text begins with that something holds for. -/
def folL (p : List UInt8 → Bool) : Nat → List UInt8 → Nat
  | 0, _ => 0
  | n + 1, t => if 8 ≤ t.length then (if p (t.take 8) = true then 1 + folL p n (t.drop 8) else 0) else 0
theorem folL_le (p : List UInt8 → Bool) : ∀ (n : Nat) (t : List UInt8), folL p n t ≤ n ∧ 8 * folL p n t ≤ t.length := by
  intro n
  induction n with
  | zero => intro t; simp [folL]
  | succ n ih =>
    intro t
    simp only [folL]
    have h := ih (t.drop 8)
    rw [List.length_drop] at h
    split
    · split <;> omega
    · omega
def zeroW (w : List UInt8) : Bool := decide (w.count 0 = 8)
def fewW (w : List UInt8) : Bool := decide (w.count 0 ≤ 1)
/-- Words, packed. -/
def packL : Nat → List UInt8 → List UInt8
  | 0, _ => []
  | n + 1, t => if t = [] then [] else
    UInt8.ofNat (tagL (t.take 8) 0) :: ((t.take 8).filter notZero ++
      (if tagL (t.take 8) 0 = 0 then UInt8.ofNat (folL zeroW 255 (t.drop 8)) :: packL n ((t.drop 8).drop (8 * folL zeroW 255 (t.drop 8)))
       else if tagL (t.take 8) 0 = 255 then UInt8.ofNat (folL fewW 255 (t.drop 8)) :: ((t.drop 8).take (8 * folL fewW 255 (t.drop 8)) ++ packL n ((t.drop 8).drop (8 * folL fewW 255 (t.drop 8))))
       else packL n (t.drop 8)))
def packV (s : ByteArray) : ByteArray := B (packL (s.size + 1) s.data.toList)
theorem or_tag : ∀ (x : Fin 256) (i : Fin 8), x.1 < 2 ^ i.1 → Go.bits .or .i64 ((x.1 : Nat) : Int) (wrap64 ((2 : Int) ^ i.1)) = ((x.1 + 2 ^ i.1 : Nat) : Int) := by decide +kernel
end Go.Proofs.YteocobbddngllaaDoor.Lem
end
section
namespace Go.Proofs.YteocobbddngllaaDoor.Lem
set_option linter.unusedVariables false
set_option linter.unusedSimpArgs false
open Go Go.RowKit Go.Proofs.YteocobbddngllaaDoorW.PrintWords Go.Proofs.YteocobbddngllaaDoorW.PrintLast Go.Proofs.YteocobbddngllaaDoorW.PrintMore
def pk (t : List UInt8) : List UInt8 := packL (t.length + 1) t
def unp (t : List UInt8) : Option (List UInt8) := unpL (t.length + 1) t
theorem packL_fuel : ∀ (n m : Nat) (t : List UInt8), t.length < n → t.length < m → packL n t = packL m t := by
  intro n
  induction n with
  | zero => intro m t h; omega
  | succ n ih =>
    intro m t hn hm
    obtain ⟨m, rfl⟩ : ∃ q, m = q + 1 := ⟨m - 1, by omega⟩
    unfold packL
    by_cases ht : t = []
    · rw [if_pos ht, if_pos ht]
    · have hl : t.length ≠ 0 := fun h => ht (List.eq_nil_of_length_eq_zero h)
      rw [if_neg ht, if_neg ht]
      have h1 : ∀ q, packL n ((t.drop 8).drop q) = packL m ((t.drop 8).drop q) := fun q => ih m _ (by rw [List.length_drop, List.length_drop]; omega) (by rw [List.length_drop, List.length_drop]; omega)
      have h2 : packL n (t.drop 8) = packL m (t.drop 8) := ih m _ (by rw [List.length_drop]; omega) (by rw [List.length_drop]; omega)
      rw [h1, h1, h2]
theorem pk_nil : pk [] = [] := rfl
theorem pk_eq (t : List UInt8) (ht : t ≠ []) : pk t = UInt8.ofNat (tagL (t.take 8) 0) :: ((t.take 8).filter notZero ++
      (if tagL (t.take 8) 0 = 0 then UInt8.ofNat (folL zeroW 255 (t.drop 8)) :: pk ((t.drop 8).drop (8 * folL zeroW 255 (t.drop 8)))
       else if tagL (t.take 8) 0 = 255 then UInt8.ofNat (folL fewW 255 (t.drop 8)) :: ((t.drop 8).take (8 * folL fewW 255 (t.drop 8)) ++ pk ((t.drop 8).drop (8 * folL fewW 255 (t.drop 8))))
       else pk (t.drop 8))) := by
  have hl : t.length ≠ 0 := fun h => ht (List.eq_nil_of_length_eq_zero h)
  unfold pk
  conv => lhs; unfold packL
  rw [if_neg ht]
  have h1 : ∀ q, packL t.length ((t.drop 8).drop q) = packL (((t.drop 8).drop q).length + 1) ((t.drop 8).drop q) := fun q => packL_fuel _ _ _ (by rw [List.length_drop, List.length_drop]; omega) (by omega)
  have h2 : packL t.length (t.drop 8) = packL ((t.drop 8).length + 1) (t.drop 8) := packL_fuel _ _ _ (by rw [List.length_drop]; omega) (by omega)
  rw [h1, h1, h2]
theorem afterW_congr (tag : UInt8) (t : List UInt8) (f g : List UInt8 → Option (List UInt8)) (h : ∀ s : List UInt8, s.length ≤ t.length → f s = g s) : afterW tag t f = afterW tag t g := by
  unfold afterW
  split
  · cases t with
    | nil => rfl
    | cons m t => dsimp only; rw [h t (by simp)]
  · split
    · cases t with
      | nil => rfl
      | cons m t => dsimp only; rw [h _ (by rw [List.length_drop, List.length_cons]; omega)]
    · exact h t (Nat.le_refl _)
theorem unpL_fuel : ∀ (n m : Nat) (t : List UInt8), t.length < n → t.length < m → unpL n t = unpL m t := by
  intro n
  induction n with
  | zero => intro m t h; omega
  | succ n ih =>
    intro m t hn hm
    obtain ⟨m, rfl⟩ : ∃ q, m = q + 1 := ⟨m - 1, by omega⟩
    cases t with
    | nil => rfl
    | cons tag t =>
      rw [List.length_cons] at hn hm
      simp only [unpL]
      cases hw : takeW tag 8 t with
      | none => rfl
      | some p =>
        obtain ⟨w, j⟩ := p
        dsimp only
        rw [afterW_congr tag (t.drop j) (unpL n) (unpL m) (fun s hs => by rw [List.length_drop] at hs; exact ih m s (by omega) (by omega))]
theorem unp_nil : unp [] = some [] := rfl
theorem unp_cons (tag : UInt8) (t : List UInt8) : unp (tag :: t) = (match takeW tag 8 t with | none => none | some (w, j) => (afterW tag (t.drop j) unp).map fun y => w ++ y) := by
  unfold unp
  simp only [unpL, List.length_cons]
  cases hw : takeW tag 8 t with
  | none => rfl
  | some p =>
    obtain ⟨w, j⟩ := p
    dsimp only
    rw [afterW_congr tag (t.drop j) (unpL (t.length + 1)) (fun t => unpL (t.length + 1) t) (fun s hs => by rw [List.length_drop] at hs; exact unpL_fuel _ _ s (by omega) (by omega))]
theorem tagL_shift : ∀ (t : List UInt8) (i : Nat), tagL t (i + 1) = 2 * tagL t i := by
  intro t
  induction t with
  | nil => intro i; rfl
  | cons b t ih =>
    intro i
    simp only [tagL]
    rw [ih (i + 1)]
    split
    · omega
    · rw [Nat.pow_succ]; omega
theorem tagL_bit : ∀ (t : List UInt8) (j : Nat), j < t.length → tagL t 0 / 2 ^ j % 2 = if t.getD j 0 = 0 then 0 else 1 := by
  intro t
  induction t with
  | nil => intro j h; exact absurd h (by simp)
  | cons b t ih =>
    intro j hj
    simp only [tagL]
    rw [tagL_shift t 0]
    cases j with
    | zero =>
      rw [List.getD_cons_zero]
      split <;> simp <;> omega
    | succ j =>
      rw [List.getD_cons_succ, ← ih j (by simpa using hj)]
      have e : ((if b = 0 then 0 else 2 ^ 0) + 2 * tagL t 0) / 2 ^ (j + 1) = tagL t 0 / 2 ^ j := by
        rw [Nat.pow_succ, Nat.mul_comm (2 ^ j) 2, ← Nat.div_div_eq_div_mul]
        congr 1
        split <;> omega
      rw [e]
theorem tagL_256 (wd : List UInt8) (hw : wd.length = 8) : tagL wd 0 < 256 := by have := tagL_lt wd 0; rw [hw] at this; omega
theorem tag_bits (wd : List UInt8) (hw : wd.length = 8) (j : Nat) (hj : j < 8) : bitB (UInt8.ofNat (tagL wd 0)) j = notZero (wd.getD j 0) := by
  have h := tagL_256 wd hw
  unfold bitB notZero
  have e : (UInt8.ofNat (tagL wd 0)).toNat = tagL wd 0 := by rw [UInt8.toNat_ofNat']; omega
  rw [e, tagL_bit wd j (by omega)]
  by_cases hc : wd.getD j 0 = 0
  · rw [if_pos hc, hc]; rfl
  · rw [if_neg hc]
    have : (wd.getD j 0 != 0) = true := bne_iff_ne.mpr hc
    rw [this]; rfl
theorem takeW_tag (wd : List UInt8) (hw : wd.length = 8) (Y : List UInt8) : ∀ (d i : Nat), i + d = 8 → takeW (UInt8.ofNat (tagL wd 0)) d ((wd.drop i).filter notZero ++ Y) = some (wd.drop i, ((wd.drop i).filter notZero).length) := by
  intro d
  induction d with
  | zero => intro i hi; rw [List.drop_eq_nil_of_le (by omega)]; rfl
  | succ d ih =>
    intro i hi
    have hd : wd.drop i = wd[i] :: wd.drop (i + 1) := List.drop_eq_getElem_cons (by omega)
    have hg : wd.getD i 0 = wd[i] := by rw [List.getD_eq_getElem?_getD, List.getElem?_eq_getElem (by omega)]; rfl
    have e7 : 7 - d = i := by omega
    simp only [takeW]
    rw [e7, tag_bits wd hw i (by omega), hg, hd]
    cases hc : notZero wd[i] with
    | true =>
      rw [List.filter_cons_of_pos hc, if_pos rfl]
      simp only [List.cons_append]
      rw [ih (i + 1) (by omega)]; rfl
    | false =>
      have h0 : wd[i] = 0 := by unfold notZero at hc; simpa using hc
      rw [List.filter_cons_of_neg (by rw [hc]; decide), if_neg (by decide), ih (i + 1) (by omega), h0]; rfl
theorem zeroW_eq (wd : List UInt8) (hw : wd.length = 8) (h : zeroW wd = true) : wd = zeros 8 := by
  unfold zeroW at h
  have hc : wd.count 0 = 8 := of_decide_eq_true h
  have := List.count_eq_length.1 (hc.trans hw.symm)
  unfold zeros
  rw [List.eq_replicate_iff]
  exact ⟨hw, fun b hb => (this b hb).symm⟩
theorem zeros_app (a b : Nat) : zeros a ++ zeros b = zeros (a + b) := by unfold zeros; exact List.replicate_append_replicate
theorem fol_zero : ∀ (n : Nat) (t : List UInt8), t.take (8 * folL zeroW n t) = zeros (8 * folL zeroW n t) := by
  intro n
  induction n with
  | zero => intro t; rfl
  | succ n ih =>
    intro t
    simp only [folL]
    by_cases h8 : 8 ≤ t.length
    · rw [if_pos h8]
      by_cases hz : zeroW (t.take 8) = true
      · rw [if_pos hz]
        have e : 8 * (1 + folL zeroW n (t.drop 8)) = 8 + 8 * folL zeroW n (t.drop 8) := by omega
        rw [e, List.take_add, ih (t.drop 8), zeroW_eq _ (by rw [List.length_take]; omega) hz, zeros_app]
      · rw [if_neg hz]; rfl
    · rw [if_neg h8]; rfl
/-- What was packed is unpacked, whatever stands behind. -/
theorem unp_pk : ∀ (n : Nat) (t : List UInt8), t.length ≤ n → t.length % 8 = 0 → ∀ x, unp (pk t ++ x) = (unp x).map fun y => t ++ y := by
  intro n
  induction n with
  | zero =>
    intro t h _ x
    obtain rfl : t = [] := List.eq_nil_of_length_eq_zero (by omega)
    rw [pk_nil, List.nil_append]
    cases unp x <;> rfl
  | succ n ih =>
    intro t hn h8 x
    by_cases ht : t = []
    · subst ht
      rw [pk_nil, List.nil_append]
      cases unp x <;> rfl
    · have hl : t.length ≠ 0 := fun h => ht (List.eq_nil_of_length_eq_zero h)
      have hwl : (t.take 8).length = 8 := by rw [List.length_take]; omega
      have htd : t.take 8 ++ t.drop 8 = t := List.take_append_drop 8 t
      have hrl : (t.drop 8).length + 8 = t.length := by rw [List.length_drop]; omega
      rw [pk_eq t ht]
      generalize t.take 8 = wd at *
      generalize t.drop 8 = r at *
      have hT := tagL_256 wd hwl
      rw [List.cons_append, unp_cons, List.append_assoc]
      have hk := takeW_tag wd hwl ((if tagL wd 0 = 0 then UInt8.ofNat (folL zeroW 255 r) :: pk (r.drop (8 * folL zeroW 255 r)) else if tagL wd 0 = 255 then UInt8.ofNat (folL fewW 255 r) :: (r.take (8 * folL fewW 255 r) ++ pk (r.drop (8 * folL fewW 255 r))) else pk r) ++ x) 8 0 (by omega)
      rw [List.drop_zero] at hk
      rw [hk]
      dsimp only
      rw [List.drop_left]
      have ht8 : UInt8.ofNat (tagL wd 0) = 0 ↔ tagL wd 0 = 0 := by
        constructor
        · intro h; have := congrArg UInt8.toNat h; rw [UInt8.toNat_ofNat'] at this; have h0 : (0 : UInt8).toNat = 0 := rfl; omega
        · intro h; rw [h]; rfl
      have ht255 : UInt8.ofNat (tagL wd 0) = 255 ↔ tagL wd 0 = 255 := by
        constructor
        · intro h; have := congrArg UInt8.toNat h; rw [UInt8.toNat_ofNat'] at this; have h0 : (255 : UInt8).toNat = 255 := rfl; omega
        · intro h; rw [h]; rfl
      unfold afterW
      by_cases t0 : tagL wd 0 = 0
      · rw [if_pos (ht8.2 t0), if_pos t0]
        have hm := folL_le zeroW 255 r
        have hz := fol_zero 255 r
        generalize folL zeroW 255 r = m at *
        have hmm : (UInt8.ofNat m).toNat = m := by rw [UInt8.toNat_ofNat']; omega
        simp only [List.cons_append]
        rw [hmm, ih (r.drop (8 * m)) (by rw [List.length_drop]; omega) (by rw [List.length_drop]; omega) x, ← hz]
        cases unp x with
        | none => rfl
        | some y =>
          simp only [Option.map_some]
          congr 1
          rw [← List.append_assoc (r.take (8 * m)), List.take_append_drop, ← List.append_assoc, htd]
      · rw [if_neg (fun h => t0 (ht8.1 h)), if_neg t0]
        by_cases t255 : tagL wd 0 = 255
        · rw [if_pos (ht255.2 t255), if_pos t255]
          have hm := folL_le fewW 255 r
          generalize folL fewW 255 r = m at *
          have hmm : (UInt8.ofNat m).toNat = m := by rw [UInt8.toNat_ofNat']; omega
          have hlt : (r.take (8 * m)).length = 8 * m := by rw [List.length_take]; omega
          simp only [List.cons_append, List.append_assoc]
          rw [hmm, if_pos (by rw [List.length_append, hlt]; omega), List.take_append_of_le_length (by omega), List.take_of_length_le (by omega), List.drop_append_of_le_length (by omega), List.drop_eq_nil_of_le (by omega), List.nil_append, ih (r.drop (8 * m)) (by rw [List.length_drop]; omega) (by rw [List.length_drop]; omega) x]
          cases unp x with
          | none => rfl
          | some y =>
            simp only [Option.map_some]
            congr 1
            rw [← List.append_assoc (r.take (8 * m)), List.take_append_drop, ← List.append_assoc, htd]
        · rw [if_neg (fun h => t255 (ht255.1 h)), if_neg t255, ih r (by omega) (by omega) x]
          cases unp x with
          | none => rfl
          | some y =>
            simp only [Option.map_some]
            congr 1
            rw [← List.append_assoc, htd]
theorem unp_pk_id (t : List UInt8) (h : t.length % 8 = 0) : unp (pk t) = some t := by
  have := unp_pk t.length t (Nat.le_refl _) h []
  rw [List.append_nil, unp_nil] at this
  rw [this]; simp
end Go.Proofs.YteocobbddngllaaDoor.Lem
end
section
namespace Go.Proofs.YteocobbddngllaaDoor.Lem
set_option linter.unusedVariables false
set_option linter.unusedSimpArgs false
open Go Go.RowKit Go.Proofs.YteocobbddngllaaDoorW.PrintWords Go.Proofs.YteocobbddngllaaDoorW.PrintLast Go.Proofs.YteocobbddngllaaDoorW.PrintMore
theorem ft_le (wd : List UInt8) (hw : wd.length = 8) : (wd.filter notZero).length ≤ 8 := by rw [← hw]; exact List.length_filter_le _ _
theorem pk_len : ∀ (n : Nat) (t : List UInt8), t.length ≤ n → t.length % 8 = 0 → (pk t).length ≤ t.length + 2 * (t.length / 8) := by
  intro n
  induction n with
  | zero =>
    intro t h _
    obtain rfl : t = [] := List.eq_nil_of_length_eq_zero (by omega)
    rw [pk_nil]; simp
  | succ n ih =>
    intro t hn h8
    by_cases ht : t = []
    · subst ht; rw [pk_nil]; simp
    · have hl : t.length ≠ 0 := fun h => ht (List.eq_nil_of_length_eq_zero h)
      have hwl : (t.take 8).length = 8 := by rw [List.length_take]; omega
      have hrl : (t.drop 8).length + 8 = t.length := by rw [List.length_drop]; omega
      have hf := ft_le _ hwl
      rw [pk_eq t ht]
      generalize t.drop 8 = r at *
      rw [List.length_cons, List.length_append]
      have hz := folL_le zeroW 255 r
      have hw := folL_le fewW 255 r
      split
      · have := ih (r.drop (8 * folL zeroW 255 r)) (by rw [List.length_drop]; omega) (by rw [List.length_drop]; omega)
        rw [List.length_drop] at this
        rw [List.length_cons]; omega
      · split
        · have := ih (r.drop (8 * folL fewW 255 r)) (by rw [List.length_drop]; omega) (by rw [List.length_drop]; omega)
          rw [List.length_drop] at this
          rw [List.length_cons, List.length_append, List.length_take]; omega
        · have := ih r (by omega) (by omega)
          omega
theorem zeroW_zeros : zeroW (zeros 8) = true := by decide
theorem tagL_zeros : tagL (zeros 8) 0 = 0 := by decide
theorem zeros_take (a b : Nat) (h : a ≤ b) : (zeros b).take a = zeros a := by unfold zeros; rw [List.take_replicate, Nat.min_eq_left h]
theorem zeros_drop (a b : Nat) : (zeros b).drop a = zeros (b - a) := by unfold zeros; rw [List.drop_replicate]
theorem fol_zeros : ∀ (k n : Nat), n ≤ k → folL zeroW k (zeros (8 * n)) = n := by
  intro k
  induction k with
  | zero => intro n h; obtain rfl : n = 0 := by omega
            rfl
  | succ k ih =>
    intro n h
    simp only [folL]
    rw [zeros_length]
    cases n with
    | zero => rw [if_neg (by omega)]
    | succ n =>
      have e : 8 * (n + 1) - 8 = 8 * n := by omega
      rw [if_pos (by omega), zeros_take _ _ (by omega), if_pos zeroW_zeros, zeros_drop, e, ih n (by omega)]; omega
theorem pk_zeros (n : Nat) (h : n ≤ 255) : pk (zeros (8 * (n + 1))) = [0, UInt8.ofNat n] := by
  have hne : zeros (8 * (n + 1)) ≠ [] := by
    intro hc
    have := congrArg List.length hc
    rw [zeros_length] at this
    have h0 : ([] : List UInt8).length = 0 := rfl
    omega
  have e : 8 * (n + 1) - 8 = 8 * n := by omega
  rw [pk_eq _ hne, zeros_take _ _ (by omega), zeros_drop, e, tagL_zeros, if_pos rfl, fol_zeros 255 n h, zeros_drop, Nat.sub_self]
  rfl
/-- How many words a text begins with, if there is room for all. -/
theorem fol_fuel (p : List UInt8 → Bool) : ∀ (n m : Nat) (t : List UInt8), t.length < 8 * (n + 1) → t.length < 8 * (m + 1) → folL p n t = folL p m t := by
  intro n
  induction n with
  | zero =>
    intro m t hn hm
    cases m with
    | zero => rfl
    | succ m => simp only [folL]; rw [if_neg (by omega)]
  | succ n ih =>
    intro m t hn hm
    cases m with
    | zero => simp only [folL]; rw [if_neg (by omega)]
    | succ m =>
      simp only [folL]
      by_cases h8 : 8 ≤ t.length
      · rw [if_pos h8, if_pos h8, ih m (t.drop 8) (by rw [List.length_drop]; omega) (by rw [List.length_drop]; omega)]
      · rw [if_neg h8, if_neg h8]
theorem fol_cons (p : List UInt8 → Bool) (t : List UInt8) (h8 : 8 ≤ t.length) (hl : t.length ≤ 1600) : folL p 255 t = if p (t.take 8) = true then 1 + folL p 255 (t.drop 8) else 0 := by
  show folL p (254 + 1) t = _
  rw [folL, if_pos h8, fol_fuel p 254 255 (t.drop 8) (by rw [List.length_drop]; omega) (by rw [List.length_drop]; omega)]
theorem fol_app (p : List UInt8 → Bool) (b : List UInt8) : ∀ (n : Nat) (a : List UInt8), a.length ≤ n → a.length % 8 = 0 → (a ++ b).length ≤ 1600 →
    (8 * folL p 255 a = a.length ∧ folL p 255 (a ++ b) = folL p 255 a + folL p 255 b) ∨ (8 * folL p 255 a + 8 ≤ a.length ∧ folL p 255 (a ++ b) = folL p 255 a) := by
  intro n
  induction n with
  | zero =>
    intro a h _ _
    obtain rfl : a = [] := List.eq_nil_of_length_eq_zero (by omega)
    left
    have : folL p 255 [] = 0 := rfl
    rw [this, List.nil_append]; simp
  | succ n ih =>
    intro a hn h8 hl
    by_cases ha : a = []
    · subst ha
      left
      have : folL p 255 [] = 0 := rfl
      rw [this, List.nil_append]; simp
    · have hl0 : a.length ≠ 0 := fun h => ha (List.eq_nil_of_length_eq_zero h)
      rw [List.length_append] at hl
      rw [fol_cons p a (by omega) (by omega), fol_cons p (a ++ b) (by rw [List.length_append]; omega) (by rw [List.length_append]; omega), List.take_append_of_le_length (by omega), List.drop_append_of_le_length (by omega)]
      by_cases hp : p (a.take 8) = true
      · rw [if_pos hp, if_pos hp]
        have h := ih (a.drop 8) (by rw [List.length_drop]; omega) (by rw [List.length_drop]; omega) (by rw [List.length_append, List.length_drop]; omega)
        rw [List.length_drop] at h
        rcases h with ⟨h1, h2⟩ | ⟨h1, h2⟩
        · left; rw [h2]; omega
        · right; rw [h2]; omega
      · rw [if_neg hp, if_neg hp]
        right; omega
theorem count_filter (wd : List UInt8) : (wd.filter notZero).length + wd.count 0 = wd.length := by
  induction wd with
  | nil => rfl
  | cons b l ih =>
    by_cases hb : b = 0
    · subst hb
      rw [List.count_cons_self, List.filter_cons_of_neg (by decide), List.length_cons]; omega
    · rw [List.count_cons_of_ne (by exact hb), List.filter_cons_of_pos (by unfold notZero; simpa using hb), List.length_cons, List.length_cons]; omega
theorem tag_full (wd : List UInt8) (hw : wd.length = 8) : tagL wd 0 = 255 ↔ wd.count 0 = 0 := by
  have bits : ∀ T : Fin 256, (∀ j : Fin 8, T.1 / 2 ^ j.1 % 2 = 1) → T.1 = 255 := by decide +kernel
  have key : ∀ j, j < 8 → tagL wd 0 / 2 ^ j % 2 = if wd.getD j 0 = 0 then 0 else 1 := fun j hj => tagL_bit wd j (by omega)
  constructor
  · intro h
    apply List.count_eq_zero_of_not_mem
    intro hm
    obtain ⟨j, hj, he⟩ := List.getElem_of_mem hm
    have hg : wd.getD j 0 = 0 := by rw [List.getD_eq_getElem?_getD, List.getElem?_eq_getElem hj]; exact he
    have := key j (by omega)
    rw [h, if_pos hg] at this
    have b255 : ∀ j : Fin 8, 255 / 2 ^ j.1 % 2 = 1 := by decide
    have h2 : 255 / 2 ^ j % 2 = 1 := b255 ⟨j, by omega⟩
    rw [h2] at this
    cases this
  · intro h
    refine bits ⟨tagL wd 0, tagL_256 wd hw⟩ (fun j => ?_)
    have := key j.1 j.2
    rw [this, if_neg]
    intro h0
    have hj : j.1 < wd.length := by omega
    have hg : wd[j.1] = 0 := by rw [List.getD_eq_getElem?_getD, List.getElem?_eq_getElem hj] at h0; exact h0
    exact (List.count_eq_zero.1 h) (hg ▸ List.getElem_mem hj)
theorem tag_none (wd : List UInt8) (hw : wd.length = 8) (h : wd.count 0 ≤ 1) : tagL wd 0 ≠ 0 := by
  intro h0
  have key : ∀ j, j < 8 → tagL wd 0 / 2 ^ j % 2 = if wd.getD j 0 = 0 then 0 else 1 := fun j hj => tagL_bit wd j (by omega)
  have hall : ∀ b ∈ wd, (0 : UInt8) = b := by
    intro b hb
    obtain ⟨j, hj, he⟩ := List.getElem_of_mem hb
    have := key j (by omega)
    rw [h0] at this
    by_cases hg : wd.getD j 0 = 0
    · rw [List.getD_eq_getElem?_getD, List.getElem?_eq_getElem hj] at hg
      rw [← he]; exact hg.symm
    · rw [if_neg hg] at this; simp at this
  have := List.count_eq_length.2 hall
  omega
/-- A word and what follows, packed, by its noughts. -/
theorem pk_word (w c : List UInt8) (hw : w.length = 8) : pk (w ++ c) = UInt8.ofNat (tagL w 0) :: (w.filter notZero ++
      (if tagL w 0 = 0 then UInt8.ofNat (folL zeroW 255 c) :: pk (c.drop (8 * folL zeroW 255 c))
       else if tagL w 0 = 255 then UInt8.ofNat (folL fewW 255 c) :: (c.take (8 * folL fewW 255 c) ++ pk (c.drop (8 * folL fewW 255 c)))
       else pk c)) := by
  have hne : w ++ c ≠ [] := by
    intro h
    have := congrArg List.length h
    rw [List.length_append] at this
    have h0 : ([] : List UInt8).length = 0 := rfl
    omega
  have h1 : (w ++ c).take 8 = w := by rw [← hw, List.take_left]
  have h2 : (w ++ c).drop 8 = c := by rw [← hw, List.drop_left]
  rw [pk_eq _ hne, h1, h2]
theorem fewB : ∀ (n : Nat) (c : List UInt8), c.length ≤ n → c.length % 8 = 0 → c.length ≤ 1600 → (pk c).length ≤ 2 + 8 * folL fewW 255 c + (pk (c.drop (8 * folL fewW 255 c))).length := by
  intro n
  induction n with
  | zero =>
    intro c h _ _
    obtain rfl : c = [] := List.eq_nil_of_length_eq_zero (by omega)
    rw [pk_nil]; simp
  | succ n ih =>
    intro c hn h8 hl
    by_cases hc : c = []
    · subst hc; rw [pk_nil]; simp
    · have hl0 : c.length ≠ 0 := fun h => hc (List.eq_nil_of_length_eq_zero h)
      rw [fol_cons fewW c (by omega) hl]
      by_cases hp : fewW (c.take 8) = true
      · rw [if_pos hp]
        have hwl : (c.take 8).length = 8 := by rw [List.length_take]; omega
        have hrl : (c.drop 8).length + 8 = c.length := by rw [List.length_drop]; omega
        have htd : c.take 8 ++ c.drop 8 = c := List.take_append_drop 8 c
        have he : c.drop (8 * (1 + folL fewW 255 (c.drop 8))) = (c.drop 8).drop (8 * folL fewW 255 (c.drop 8)) := by rw [List.drop_drop]; congr 1; omega
        rw [he]
        have hk := pk_word (c.take 8) (c.drop 8) hwl
        rw [htd] at hk
        rw [hk]
        have ihc := ih (c.drop 8) (by omega) (by omega) (by omega)
        have hcf := count_filter (c.take 8)
        have hcnt : (c.take 8).count 0 ≤ 1 := of_decide_eq_true hp
        have hfull := tag_full (c.take 8) hwl
        have hnone := tag_none (c.take 8) hwl hcnt
        generalize c.take 8 = w at *
        generalize c.drop 8 = r at *
        rw [List.length_cons, List.length_append, if_neg hnone]
        by_cases t255 : tagL w 0 = 255
        · have := hfull.1 t255
          have hm := folL_le fewW 255 r
          rw [if_pos t255, List.length_cons, List.length_append, List.length_take]; omega
        · have : w.count 0 ≠ 0 := fun h => t255 (hfull.2 h)
          rw [if_neg t255]; omega
      · rw [if_neg hp]; simp
theorem fewA (w c : List UInt8) (hw : w.length = 8) (hp : fewW w = true) (h8 : c.length % 8 = 0) (hl : c.length ≤ 1600) : 8 + (pk c).length ≤ (pk (w ++ c)).length := by
  have hB := fewB c.length c (Nat.le_refl _) h8 hl
  have hcf := count_filter w
  have hcnt : w.count 0 ≤ 1 := of_decide_eq_true hp
  have hfull := tag_full w hw
  have hnone := tag_none w hw hcnt
  rw [pk_word w c hw, List.length_cons, List.length_append, if_neg hnone]
  by_cases t255 : tagL w 0 = 255
  · have := hfull.1 t255
    have hm := folL_le fewW 255 c
    rw [if_pos t255, List.length_cons, List.length_append, List.length_take]; omega
  · have : w.count 0 ≠ 0 := fun h => t255 (hfull.2 h)
    rw [if_neg t255]; omega
theorem fewJ : ∀ (j : Nat) (b : List UInt8), j ≤ folL fewW 255 b → b.length % 8 = 0 → b.length ≤ 1600 → 8 * j + (pk (b.drop (8 * j))).length ≤ (pk b).length := by
  intro j
  induction j with
  | zero => intro b _ _ _; simp
  | succ j ih =>
    intro b hj h8 hl
    have hle := (folL_le fewW 255 b).2
    have h8b : 8 ≤ b.length := by omega
    rw [fol_cons fewW b h8b hl] at hj
    by_cases hp : fewW (b.take 8) = true
    · rw [if_pos hp] at hj
      have hwl : (b.take 8).length = 8 := by rw [List.length_take]; omega
      have h1 := ih (b.drop 8) (by omega) (by rw [List.length_drop]; omega) (by rw [List.length_drop]; omega)
      have h2 := fewA (b.take 8) (b.drop 8) hwl hp (by rw [List.length_drop]; omega) (by rw [List.length_drop]; omega)
      rw [List.take_append_drop] at h2
      rw [List.drop_drop] at h1
      have e : 8 + 8 * j = 8 * (j + 1) := by omega
      rw [e] at h1
      omega
    · rw [if_neg hp] at hj; omega
theorem zeroA (w c : List UInt8) (hw : w.length = 8) (hp : zeroW w = true) (h8 : c.length % 8 = 0) (hl : c.length ≤ 1600) : (pk c).length ≤ (pk (w ++ c)).length := by
  have hz := zeroW_eq w hw hp
  have ht : tagL w 0 = 0 := by rw [hz]; exact tagL_zeros
  rw [pk_word w c hw, List.length_cons, List.length_append, if_pos ht, List.length_cons]
  by_cases hc : 8 ≤ c.length
  · rw [fol_cons zeroW c hc hl]
    by_cases hq : zeroW (c.take 8) = true
    · rw [if_pos hq]
      have hwl : (c.take 8).length = 8 := by rw [List.length_take]; omega
      have ht2 : tagL (c.take 8) 0 = 0 := by rw [zeroW_eq _ hwl hq]; exact tagL_zeros
      have hf2 : ((c.take 8).filter notZero).length = 0 := by rw [zeroW_eq _ hwl hq]; rfl
      have hk := pk_word (c.take 8) (c.drop 8) hwl
      rw [List.take_append_drop] at hk
      have he : c.drop (8 * (1 + folL zeroW 255 (c.drop 8))) = (c.drop 8).drop (8 * folL zeroW 255 (c.drop 8)) := by rw [List.drop_drop]; congr 1; omega
      have hkl := congrArg List.length hk
      rw [List.length_cons, List.length_append, if_pos ht2, List.length_cons, hf2] at hkl
      rw [he, hkl]; omega
    · rw [if_neg hq]; simp; omega
  · have : folL zeroW 255 c = 0 := by have := (folL_le zeroW 255 c).2; omega
    rw [this]; simp; omega
theorem zeroJ : ∀ (j : Nat) (b : List UInt8), j ≤ folL zeroW 255 b → b.length % 8 = 0 → b.length ≤ 1600 → (pk (b.drop (8 * j))).length ≤ (pk b).length := by
  intro j
  induction j with
  | zero => intro b _ _ _; simp
  | succ j ih =>
    intro b hj h8 hl
    have hle := (folL_le zeroW 255 b).2
    have h8b : 8 ≤ b.length := by omega
    rw [fol_cons zeroW b h8b hl] at hj
    by_cases hp : zeroW (b.take 8) = true
    · rw [if_pos hp] at hj
      have hwl : (b.take 8).length = 8 := by rw [List.length_take]; omega
      have h1 := ih (b.drop 8) (by omega) (by rw [List.length_drop]; omega) (by rw [List.length_drop]; omega)
      have h2 := zeroA (b.take 8) (b.drop 8) hwl hp (by rw [List.length_drop]; omega) (by rw [List.length_drop]; omega)
      rw [List.take_append_drop] at h2
      rw [List.drop_drop] at h1
      have e : 8 + 8 * j = 8 * (j + 1) := by omega
      rw [e] at h1
      omega
    · rw [if_neg hp] at hj; omega
/-- Two texts of words, packed as one, are no longer than packed each for itself. -/
theorem pk_join (b : List UInt8) (hb : b.length % 8 = 0) : ∀ (n : Nat) (a : List UInt8), a.length ≤ n → a.length % 8 = 0 → (a ++ b).length ≤ 1600 → (pk (a ++ b)).length ≤ (pk a).length + (pk b).length := by
  intro n
  induction n with
  | zero =>
    intro a h _ _
    obtain rfl : a = [] := List.eq_nil_of_length_eq_zero (by omega)
    rw [List.nil_append]; omega
  | succ n ih =>
    intro a hn h8 hl
    by_cases ha : a = []
    · subst ha; rw [List.nil_append]; omega
    · have hl0 : a.length ≠ 0 := fun h => ha (List.eq_nil_of_length_eq_zero h)
      have hwl : (a.take 8).length = 8 := by rw [List.length_take]; omega
      have hrl : (a.drop 8).length + 8 = a.length := by rw [List.length_drop]; omega
      have htd : a.take 8 ++ a.drop 8 = a := List.take_append_drop 8 a
      rw [List.length_append] at hl
      generalize a.take 8 = w at *
      generalize a.drop 8 = r at *
      subst htd
      rw [List.append_assoc, pk_word w (r ++ b) hwl, pk_word w r hwl]
      rw [List.length_cons, List.length_append, List.length_cons, List.length_append]
      have hz := fol_app zeroW b r.length r (Nat.le_refl _) (by omega) (by rw [List.length_append]; omega)
      have hf := fol_app fewW b r.length r (Nat.le_refl _) (by omega) (by rw [List.length_append]; omega)
      have lz := folL_le zeroW 255 r
      have lf := folL_le fewW 255 r
      by_cases t0 : tagL w 0 = 0
      · rw [if_pos t0, if_pos t0, List.length_cons, List.length_cons]
        rcases hz with ⟨h1, h2⟩ | ⟨h1, h2⟩
        · have hj := zeroJ (folL zeroW 255 b) b (Nat.le_refl _) hb (by omega)
          have e1 : (r ++ b).drop (8 * folL zeroW 255 (r ++ b)) = b.drop (8 * folL zeroW 255 b) := by
            rw [h2]
            have : 8 * (folL zeroW 255 r + folL zeroW 255 b) = r.length + 8 * folL zeroW 255 b := by omega
            rw [this, List.drop_append, List.drop_eq_nil_of_le (by omega), List.nil_append]; congr 1; omega
          rw [e1]; omega
        · have e1 : (r ++ b).drop (8 * folL zeroW 255 (r ++ b)) = r.drop (8 * folL zeroW 255 r) ++ b := by rw [h2, List.drop_append_of_le_length (by omega)]
          rw [e1]
          have := ih (r.drop (8 * folL zeroW 255 r)) (by rw [List.length_drop]; omega) (by rw [List.length_drop]; omega) (by rw [List.length_append, List.length_drop]; omega)
          omega
      · rw [if_neg t0, if_neg t0]
        by_cases t255 : tagL w 0 = 255
        · rw [if_pos t255, if_pos t255, List.length_cons, List.length_cons, List.length_append, List.length_append, List.length_take, List.length_take, List.length_append]
          rcases hf with ⟨h1, h2⟩ | ⟨h1, h2⟩
          · have hj := fewJ (folL fewW 255 b) b (Nat.le_refl _) hb (by omega)
            have lb := folL_le fewW 255 b
            have e1 : (r ++ b).drop (8 * folL fewW 255 (r ++ b)) = b.drop (8 * folL fewW 255 b) := by
              rw [h2]
              have : 8 * (folL fewW 255 r + folL fewW 255 b) = r.length + 8 * folL fewW 255 b := by omega
              rw [this, List.drop_append, List.drop_eq_nil_of_le (by omega), List.nil_append]; congr 1; omega
            rw [e1, h2]; omega
          · have e1 : (r ++ b).drop (8 * folL fewW 255 (r ++ b)) = r.drop (8 * folL fewW 255 r) ++ b := by rw [h2, List.drop_append_of_le_length (by omega)]
            rw [e1, h2]
            have := ih (r.drop (8 * folL fewW 255 r)) (by rw [List.length_drop]; omega) (by rw [List.length_drop]; omega) (by rw [List.length_append, List.length_drop]; omega)
            omega
        · rw [if_neg t255, if_neg t255]
          have := ih r (by omega) (by omega) (by rw [List.length_append]; omega)
          omega
end Go.Proofs.YteocobbddngllaaDoor.Lem
end
