/- Reading a frame, in plain terms, on lists of bytes; what was put into a frame is read from it. -/
import Derived.Test.YteocobbddngllaaDoorLemPut2
import Derived.Test.YteocobbddngllaaDoorLemFramePut
import Derived.Test.YteocobbddngllaaDoorLemA
namespace Go.Proofs.YteocobbddngllaaDoor.Lem
set_option linter.unusedVariables false
set_option linter.unusedSimpArgs false
open Go Go.RowKit Go.Proofs.YteocobbddngllaaDoor.P Go.Proofs.YteocobbddngllaaDoorW.PrintWords Go.Proofs.YteocobbddngllaaDoorW.PrintLast Go.Proofs.YteocobbddngllaaDoorW.PrintMore
/-- The number in the first four bytes. -/
def n4 (t : List UInt8) : Nat := (acc (B t) 0 4 0).toNat
theorem n4_acc (t : List UInt8) : acc (B t) 0 4 0 = (n4 t : Int) := by
  have := acc_range (B t) 0 4
  unfold n4; omega
theorem n4_lt (t : List UInt8) : n4 t < 4294967296 := by
  have := acc_range (B t) 0 4
  have e : (256 : Int) ^ 4 = 4294967296 := by decide
  rw [e] at this
  unfold n4; omega
theorem acc_at (t : List UInt8) (a : Nat) : acc (B t) (a : Int) 4 0 = (n4 (t.drop a) : Int) := by
  rw [← n4_acc]
  refine acc_same _ _ _ _ 4 0 (fun j hj => ?_)
  have e1 : (a : Int) + (j : Int) = ((a + j : Nat) : Int) := by omega
  have e2 : (0 : Int) + (j : Int) = ((j : Nat) : Int) := by omega
  rw [e1, e2, B_bt, B_bt, List.getD_eq_getElem?_getD, List.getD_eq_getElem?_getD, List.getElem?_drop]
def le4L (n : Int) : List UInt8 := (le4 n).data.toList
theorem le4L_length (n : Int) : (le4L n).length = 4 := by unfold le4L; rw [data_length, le4_size]
theorem B_le4L (n : Int) : B (le4L n) = le4 n := B_of _
theorem n4_put (m : Nat) (r : List UInt8) (hm : m < 4294967296) : n4 (le4L m ++ r) = m := by
  have ha : acc (B (le4L m ++ r)) 0 4 0 = (m : Int) % 256 ^ 4 := by
    refine acc_num _ _ _ 4 (fun j hj => ?_)
    have e2 : (0 : Int) + (j : Int) = ((j : Nat) : Int) := by omega
    rw [e2, ← B_append, B_le4L, bt_append, le4_size, if_pos hj]
    unfold le4
    rw [bt_strOf _ _ (leB_range _ _), leB_get _ _ _ hj]
  have e : (256 : Int) ^ 4 = 4294967296 := by decide
  rw [e] at ha
  unfold n4
  rw [ha]; omega
theorem le4_n4 (t : List UInt8) (h : 4 ≤ t.length) : le4L (n4 t) = t.take 4 := by
  have hb : le4 (n4 t : Int) = B (t.take 4) := by
    have z1 := le4_size (n4 t : Int)
    have z2 : (B (t.take 4)).size = 4 := by rw [B_size, List.length_take]; omega
    refine bt_ext (by rw [z1, z2]) (fun i hi => ?_)
    rw [z1] at hi
    unfold le4
    rw [bt_strOf _ _ (leB_range _ _), leB_get _ _ _ hi, ← n4_acc, acc_digit (B t) 0 4 i hi]
    have e2 : (0 : Int) + (i : Int) = ((i : Nat) : Int) := by omega
    rw [e2, B_bt, B_bt, List.getD_eq_getElem?_getD, List.getD_eq_getElem?_getD, List.getElem?_take, if_pos hi]
  unfold le4L
  rw [hb, B_data]
def szs : Nat → List UInt8 → List Nat
  | 0, _ => []
  | n + 1, t => n4 t :: szs n (t.drop 4)
theorem szs_length : ∀ (n : Nat) (t : List UInt8), (szs n t).length = n := by
  intro n
  induction n with
  | zero => intro t; rfl
  | succ n ih => intro t; simp only [szs, List.length_cons]; rw [ih]
def sumN (l : List Nat) : Nat := l.foldr (· + ·) 0
def cutL : List Nat → List UInt8 → List (List UInt8)
  | [], _ => []
  | z :: zs, t => t.take (8 * z) :: cutL zs (t.drop (8 * z))
theorem cutL_length : ∀ (zs : List Nat) (t : List UInt8), (cutL zs t).length = zs.length := by
  intro zs
  induction zs with
  | nil => intro t; rfl
  | cons z zs ih => intro t; simp only [cutL, List.length_cons]; rw [ih]
def hd8 (n : Nat) : Nat := (4 * (n + 1) + 7) / 8 * 8
/-- The segments with whose frame bytes begin, and how many bytes it takes. -/
def frameG (t : List UInt8) : List ByteArray × Int :=
  if t.length < 4 then ([], 0)
  else if 6 < n4 t + 1 then ([], -1)
  else if t.length < hd8 (n4 t + 1) then ([], 0)
  else if 200 < sumN (szs (n4 t + 1) (t.drop 4)) ∨ ((t.take (hd8 (n4 t + 1))).drop (4 * (n4 t + 2))).all (fun c => c == 0) = false then ([], -1)
  else if t.length < hd8 (n4 t + 1) + 8 * sumN (szs (n4 t + 1) (t.drop 4)) then ([], 0)
  else ((cutL (szs (n4 t + 1) (t.drop 4)) (t.drop (hd8 (n4 t + 1)))).map B, ((hd8 (n4 t + 1) + 8 * sumN (szs (n4 t + 1) (t.drop 4)) : Nat) : Int))
/-- The bytes of a frame, as lists. -/
def szL (l : List (List UInt8)) : List UInt8 := (l.map fun s => le4L ((s.length / 8 : Nat) : Int)).flatten
def padL (n : Nat) : List UInt8 := if (4 + 4 * n) % 8 = 0 then [] else zeros 4
def frL (l : List (List UInt8)) : List UInt8 := le4L ((l.length : Int) - 1) ++ szL l ++ padL l.length ++ l.flatten
theorem putSizes_L (l : List (List UInt8)) : ∀ x : List UInt8, putSizes (l.map B) (B x) = B (x ++ szL l) := by
  induction l with
  | nil => intro x; show B x = _; simp [szL]
  | cons s l ih =>
    intro x
    show putSizes (l.map B) (B x ++ le4 (((B s).size : Int) / 8)) = _
    have e : (((B s).size : Int) / 8) = ((s.length / 8 : Nat) : Int) := by rw [B_size]; omega
    rw [e, ← B_le4L, B_append, ih]
    simp [szL]
theorem putSegs_L (l : List (List UInt8)) : ∀ x : List UInt8, putSegs (l.map B) (B x) = B (x ++ l.flatten) := by
  induction l with
  | nil => intro x; show B x = _; simp
  | cons s l ih =>
    intro x
    show putSegs (l.map B) (B x ++ B s) = _
    rw [B_append, ih]
    simp
theorem zero4 : le4L 0 = zeros 4 := by decide +kernel
theorem frameV_L (l : List (List UInt8)) : frameV (l.map B) = B (frL l) := by
  unfold frameV headV
  rw [List.length_map, ← B_le4L, putSizes_L]
  have hz : (B (le4L ((l.length : Int) - 1) ++ szL l)).size = 4 + 4 * l.length := by
    rw [B_size, List.length_append, le4L_length]
    have : ∀ l : List (List UInt8), (szL l).length = 4 * l.length := by
      intro l
      induction l with
      | nil => rfl
      | cons s l ih => show (le4L _ ++ szL l).length = _; rw [List.length_append, le4L_length, ih, List.length_cons]; omega
    rw [this]
  have hp : pad8 (B (le4L ((l.length : Int) - 1) ++ szL l)) = B (le4L ((l.length : Int) - 1) ++ szL l ++ padL l.length) := by
    unfold pad8 padL
    rw [hz]
    by_cases h : (4 + 4 * l.length) % 8 = 0
    · rw [if_pos (by omega), if_pos h, List.append_nil]
    · rw [if_neg (by omega), if_neg h, ← B_le4L, B_append, zero4]
  rw [hp, putSegs_L]; rfl
theorem szL_length : ∀ l : List (List UInt8), (szL l).length = 4 * l.length := by
  intro l
  induction l with
  | nil => rfl
  | cons s l ih => show (le4L _ ++ szL l).length = _; rw [List.length_append, le4L_length, ih, List.length_cons]; omega
theorem padL_length (n : Nat) : 4 + 4 * n + (padL n).length = hd8 n := by
  unfold padL hd8
  split
  · simp; omega
  · rw [zeros_length]; omega
/-- Sizes that were put are read. -/
theorem szs_put : ∀ (l : List (List UInt8)) (r : List UInt8), (∀ s ∈ l, s.length < 10000) → szs l.length (szL l ++ r) = l.map fun s => s.length / 8 := by
  intro l
  induction l with
  | nil => intro r _; rfl
  | cons s l ih =>
    intro r h
    have hs := h s (List.mem_cons_self ..)
    have e : szL (s :: l) ++ r = le4L ((s.length / 8 : Nat) : Int) ++ (szL l ++ r) := by show (le4L _ ++ szL l) ++ r = _; rw [List.append_assoc]
    rw [e, List.length_cons]
    simp only [szs, List.map_cons]
    rw [n4_put _ _ (by omega)]
    congr 1
    have hd : (le4L ((s.length / 8 : Nat) : Int) ++ (szL l ++ r)).drop 4 = szL l ++ r := by
      have h4 := le4L_length ((s.length / 8 : Nat) : Int)
      rw [← h4, List.drop_left]
    rw [hd]
    exact ih r (fun x hx => h x (List.mem_cons_of_mem _ hx))
theorem cut_put : ∀ (l : List (List UInt8)) (r : List UInt8), (∀ s ∈ l, s.length % 8 = 0) → cutL (l.map fun s => s.length / 8) (l.flatten ++ r) = l := by
  intro l
  induction l with
  | nil => intro r _; rfl
  | cons s l ih =>
    intro r h
    have hs := h s (List.mem_cons_self ..)
    have e8 : 8 * (s.length / 8) = s.length := by omega
    simp only [List.map_cons, cutL, List.flatten_cons, List.append_assoc]
    rw [e8, List.take_left, List.drop_left, ih r (fun x hx => h x (List.mem_cons_of_mem _ hx))]
theorem sum_put (l : List (List UInt8)) (h : ∀ s ∈ l, s.length % 8 = 0) : 8 * sumN (l.map fun s => s.length / 8) = l.flatten.length := by
  induction l with
  | nil => rfl
  | cons s l ih =>
    have hs := h s (List.mem_cons_self ..)
    have := ih (fun x hx => h x (List.mem_cons_of_mem _ hx))
    show 8 * (s.length / 8 + sumN _) = _
    rw [List.flatten_cons, List.length_append]; omega
end Go.Proofs.YteocobbddngllaaDoor.Lem
