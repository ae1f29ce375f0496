/- What unpacking is, in plain terms, on lists of bytes. -/
import Derived.Test.YteocobbddngllaaDoorLemB
namespace Go.Proofs.YteocobbddngllaaDoor.Lem
set_option linter.unusedVariables false
open Go Go.RowKit Go.Proofs.YteocobbddngllaaDoorW.PrintWords Go.Proofs.YteocobbddngllaaDoorW.PrintLast Go.Proofs.YteocobbddngllaaDoorW.PrintMore
def bitB (tag : UInt8) (i : Nat) : Bool := tag.toNat / 2 ^ i % 2 == 1
/-- A word by its tag, of d bytes yet, and how many bytes it takes. -/
def takeW (tag : UInt8) : Nat → List UInt8 → Option (List UInt8 × Nat)
  | 0, _ => some ([], 0)
  | d + 1, t => if bitB tag (7 - d) = true then (match t with | [] => none | b :: t => (takeW tag d t).map fun p => (b :: p.1, p.2 + 1)) else (takeW tag d t).map fun p => ((0 : UInt8) :: p.1, p.2)
theorem takeW_len (tag : UInt8) : ∀ (d : Nat) (t w : List UInt8) (j : Nat), takeW tag d t = some (w, j) → w.length = d ∧ j ≤ t.length ∧ j ≤ d := by
  intro d
  induction d with
  | zero => intro t w j h; simp only [takeW, Option.some.injEq, Prod.mk.injEq] at h; obtain ⟨rfl, rfl⟩ := h; exact ⟨rfl, by omega, by omega⟩
  | succ d ih =>
    intro t w j h
    simp only [takeW] at h
    by_cases hb : bitB tag (7 - d) = true
    · rw [if_pos hb] at h
      cases t with
      | nil => cases h
      | cons b t =>
        obtain ⟨⟨w', j'⟩, h1, h2⟩ := Option.map_eq_some_iff.1 h
        simp only [Prod.mk.injEq] at h2
        obtain ⟨rfl, rfl⟩ := h2
        obtain ⟨h3, h4, h5⟩ := ih t w' j' h1
        exact ⟨by rw [List.length_cons, h3], by rw [List.length_cons]; omega, by omega⟩
    · rw [if_neg hb] at h
      obtain ⟨⟨w', j'⟩, h1, h2⟩ := Option.map_eq_some_iff.1 h
      simp only [Prod.mk.injEq] at h2
      obtain ⟨rfl, rfl⟩ := h2
      obtain ⟨h3, h4, h5⟩ := ih t w' j' h1
      exact ⟨by rw [List.length_cons, h3], h4, by omega⟩
def zeros (n : Nat) : List UInt8 := List.replicate n 0
theorem zeros_length (n : Nat) : (zeros n).length = n := by simp [zeros]
/-- What stands behind a word, by its tag. -/
def afterW (tag : UInt8) (t : List UInt8) (rec : List UInt8 → Option (List UInt8)) : Option (List UInt8) :=
  if tag = 0 then (match t with | [] => none | m :: t => (rec t).map fun y => zeros (8 * m.toNat) ++ y)
  else if tag = 255 then (match t with | [] => none | m :: t => if 8 * m.toNat ≤ t.length then (rec (t.drop (8 * m.toNat))).map fun y => t.take (8 * m.toNat) ++ y else none)
  else rec t
/-- The words of packed bytes. -/
def unpL : Nat → List UInt8 → Option (List UInt8)
  | 0, _ => none
  | n + 1, [] => some []
  | n + 1, tag :: t => match takeW tag 8 t with
    | none => none
    | some (w, j) => (afterW tag (t.drop j) (unpL n)).map fun y => w ++ y
/-- What is unpacked, behind some words. -/
def finU (o : List UInt8) (x : Option (List UInt8)) : ByteArray × Bool := match x with | some y => if (o ++ y).length ≤ 1600 then (B (o ++ y), true) else (B [], false) | none => (B [], false)
theorem finU_map (o a : List UInt8) (x : Option (List UInt8)) : finU o (x.map fun y => a ++ y) = finU (o ++ a) x := by
  cases x with
  | none => rfl
  | some y => simp only [finU, Option.map_some, List.append_assoc]
theorem finU_long {o : List UInt8} (x : Option (List UInt8)) (h : 1600 < o.length) : finU o x = (B [], false) := by
  cases x with
  | none => rfl
  | some y => simp only [finU]; rw [if_neg (by rw [List.length_append]; omega)]
def unpV (s : ByteArray) : ByteArray × Bool := finU [] (unpL (s.size + 1) s.data.toList)
theorem bit_i64 : ∀ (x : Fin 256) (i : Fin 8), (decide (Go.bits .and .i64 (shr .i64 ((x.1 : Nat) : Int) ((i.1 : Nat) : Int)) 1 = 0)) = !(x.1 / 2 ^ i.1 % 2 == 1) := by decide +kernel
theorem bit_u8 : ∀ (x : Fin 256) (i : Fin 8), (decide (Go.bits .and .u8 (shr .u8 ((x.1 : Nat) : Int) ((i.1 : Nat) : Int)) 1 = 1)) = (x.1 / 2 ^ i.1 % 2 == 1) := by decide +kernel
theorem bitB_i64 (tag : UInt8) (i : Nat) (h : i < 8) : (Go.bits .and .i64 (shr .i64 (tag.toNat : Int) (i : Int)) 1 = 0) ↔ ¬ bitB tag i = true := by
  have e : decide (Go.bits .and .i64 (shr .i64 (tag.toNat : Int) (i : Int)) 1 = 0) = !bitB tag i := bit_i64 ⟨tag.toNat, tag.toNat_lt⟩ ⟨i, h⟩
  generalize bitB tag i = b at e ⊢
  cases b <;> simpa using e
theorem bitB_u8 (tag : UInt8) (i : Nat) (h : i < 8) : (Go.bits .and .u8 (shr .u8 (tag.toNat : Int) (i : Int)) 1 = 1) ↔ bitB tag i = true := by
  have e : decide (Go.bits .and .u8 (shr .u8 (tag.toNat : Int) (i : Int)) 1 = 1) = bitB tag i := bit_u8 ⟨tag.toNat, tag.toNat_lt⟩ ⟨i, h⟩
  generalize bitB tag i = b at e ⊢
  cases b <;> simpa using e
theorem tag0 (tag : UInt8) : ((tag.toNat : Int) = 0) ↔ tag = 0 := by
  constructor
  · intro h; exact UInt8.toNat_inj.1 (by show tag.toNat = 0; omega)
  · rintro rfl; rfl
theorem tag255 (tag : UInt8) : ((tag.toNat : Int) = 255) ↔ tag = 255 := by
  constructor
  · intro h; exact UInt8.toNat_inj.1 (by show tag.toNat = 255; omega)
  · rintro rfl; rfl
end Go.Proofs.YteocobbddngllaaDoor.Lem
