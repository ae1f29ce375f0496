/- What is asked of a schema, as plain functions of what it holds; and what the printed texts of impl's look-ups and names come to. -/
import Derived.Test.YtjeipkfeihahdaaGreatDoorLemName
import Derived.Test.YtjeipkfeihahdaaGreatDoorStubConcat
import Derived.Test.YtjeipkfeihahdaaGreatDoorPx6
import Derived.Test.YtjeipkfeihahdaaGreatDoorPx7
namespace Go.Proofs.YtjeipkfeihahdaaGreatDoor.Lem
set_option linter.unusedVariables false
set_option linter.unusedSimpArgs false
open Go Go.RowKit Go.Proofs.YtjeipkfeihahdaaGreatDoor.P Go.Proofs.YtjeipkfeihahdaaGreatDoorW.PrintWords Go.Proofs.YtjeipkfeihahdaaGreatDoorW.PrintLast Go.Proofs.YtjeipkfeihahdaaGreatDoorW.PrintMore
abbrev SD := S46
abbrev SS := S42
abbrev SE := S70
abbrev zD : SD := z46
abbrev zS : SS := z42
abbrev zE : SE := z70
def findS (l : List SS) (a : ByteArray) : Option SS := l.find? (fun d => decide (d.f0.toList = a.toList))
def findE (l : List SE) (a : ByteArray) : Option SE := l.find? (fun d => decide (d.f0.toList = a.toList))
/-- The size of a type; -1 if its base is none. -/
def sizeF (l0 : List SS) (l1 : List SE) (b : ByteArray) (li : Bool) : Int :=
  if baseSize b = 0 ∧ findE l1 b = none ∧ findS l0 b = none then -1 else if li = true ∨ findS l0 b ≠ none then 6 else if findE l1 b ≠ none then 3 else baseSize b
/-- Whether a number may be of a type. -/
def mayF (l0 : List SS) (l1 : List SE) (b : ByteArray) (li : Bool) (n : Int) : Bool :=
  match findE l1 b, li with
  | some e, false => decide (0 ≤ n ∧ n ≤ (e.f1.length : Int) - 1)
  | _, _ => decide (Fits n (sizeF l0 l1 b li)) && decide (-999999999999999999 ≤ n ∧ n ≤ 999999999999999999)
def allD (l0 : List SS) (p : SD → Bool) : Bool := l0.all (fun d => d.f1.all p)
/-- The lots in which no name may stand twice, but the names of structs and enums. -/
def lotsOf (l0 : List SS) (l1 : List SE) : List (List ByteArray) := l0.map (fun d => d.f1.map (·.f0)) ++ l1.map (·.f1)
def topOf (l0 : List SS) (l1 : List SE) : List ByteArray := l0.map (·.f0) ++ l1.map (·.f0)
/-- Not great: as all drawn schemas are. -/
structure Small (l0 : List SS) (l1 : List SE) : Prop where
  n0 : l0.length ≤ 10
  n1 : l1.length ≤ 10
  s0 : ∀ d ∈ l0, d.f0.size ≤ 20 ∧ d.f1.length ≤ 10 ∧ ∀ x ∈ d.f1, x.f0.size ≤ 20 ∧ x.f2.f0.size ≤ 20 ∧ (-1000000 ≤ x.f1 ∧ x.f1 ≤ 1000000) ∧ (-1000000 ≤ x.f4 ∧ x.f4 ≤ 1000000)
  s1 : ∀ e ∈ l1, e.f0.size ≤ 20 ∧ e.f1.length ≤ 10 ∧ ∀ x ∈ e.f1, x.size ≤ 20
theorem rdS_at (l : List SS) (i : Nat) (hi : i < l.length) : rd_T42 l (i : Int) = l[i] := by
  unfold rd_T42
  simp [hi]
theorem rdE_at (l : List SE) (i : Nat) (hi : i < l.length) : rd_T70 l (i : Int) = l[i] := by
  unfold rd_T70
  simp [hi]
theorem rdD_at (l : List SD) (i : Nat) (hi : i < l.length) : rd_T46 l (i : Int) = l[i] := by
  unfold rd_T46
  simp [hi]
theorem record_l (a : ByteArray) (l : List SS) (hl : l.length ≤ 1000) : ∀ m i k, m + i = l.length → m < k → impl_Schema_record.l0 k a l (l.length : Int) (i : Int) = some (match findS (l.drop i) a with | some d => (d.f0, d.f1, true) | none => (⟨#[]⟩, [], false)) := by
  intro m
  induction m with
  | zero =>
    intro i k hm hk
    obtain ⟨k, rfl⟩ : ∃ j, k = j + 1 := ⟨k - 1, by omega⟩
    unfold impl_Schema_record.l0
    rw [if_neg (by omega), List.drop_eq_nil_of_le (by omega)]
    rfl
  | succ m ih =>
    intro i k hm hk
    obtain ⟨k, rfl⟩ : ∃ j, k = j + 1 := ⟨k - 1, by omega⟩
    have hi : i < l.length := by omega
    have e' : impl_Schema_record.l0 k a l (l.length : Int) ((i : Int) + 1) = _ := ih (i + 1) k (by omega) (by omega)
    unfold impl_Schema_record.l0
    rw [if_pos (by omega), if_pos (by omega), if_pos (by omega), wrap64_id (by omega) (by omega), e', rdS_at l i hi, List.drop_eq_getElem_cons hi]
    unfold findS
    rw [List.find?_cons]
    by_cases h : l[i].f0.toList = a.toList
    · rw [if_pos h, decide_eq_true h]
    · rw [if_neg h, decide_eq_false h]
theorem record_f (a : ByteArray) (l : List SS) (l1 : List SE) (hl : l.length ≤ 1000) (k : Nat) (hk : 1002 ≤ k) : impl_Schema_record.f k l l1 a = some (match findS l a with | some d => (d.f0, d.f1, true) | none => (⟨#[]⟩, [], false)) := by
  unfold impl_Schema_record.f
  exact record_l a l hl l.length 0 k (by omega) (by omega)
theorem enum_l (a : ByteArray) (l : List SE) (hl : l.length ≤ 1000) : ∀ m i k, m + i = l.length → m < k → impl_Schema_enum.l0 k a l (l.length : Int) (i : Int) = some (match findE (l.drop i) a with | some d => (d.f0, d.f1, true) | none => (⟨#[]⟩, [], false)) := by
  intro m
  induction m with
  | zero =>
    intro i k hm hk
    obtain ⟨k, rfl⟩ : ∃ j, k = j + 1 := ⟨k - 1, by omega⟩
    unfold impl_Schema_enum.l0
    rw [if_neg (by omega), List.drop_eq_nil_of_le (by omega)]
    rfl
  | succ m ih =>
    intro i k hm hk
    obtain ⟨k, rfl⟩ : ∃ j, k = j + 1 := ⟨k - 1, by omega⟩
    have hi : i < l.length := by omega
    have e' : impl_Schema_enum.l0 k a l (l.length : Int) ((i : Int) + 1) = _ := ih (i + 1) k (by omega) (by omega)
    unfold impl_Schema_enum.l0
    rw [if_pos (by omega), if_pos (by omega), if_pos (by omega), wrap64_id (by omega) (by omega), e', rdE_at l i hi, List.drop_eq_getElem_cons hi]
    unfold findE
    rw [List.find?_cons]
    by_cases h : l[i].f0.toList = a.toList
    · rw [if_pos h, decide_eq_true h]
    · rw [if_neg h, decide_eq_false h]
theorem enum_f (a : ByteArray) (l0 : List SS) (l : List SE) (hl : l.length ≤ 1000) (k : Nat) (hk : 1002 ≤ k) : impl_Schema_enum.f k l0 l a = some (match findE l a with | some d => (d.f0, d.f1, true) | none => (⟨#[]⟩, [], false)) := by
  unfold impl_Schema_enum.f
  exact enum_l a l hl l.length 0 k (by omega) (by omega)
/-! names -/
theorem concat_f (ll : List (List ByteArray)) (h : (allOf ll).length ≤ 1000000) (h2 : ll.length ≤ 1000000) : slices_Concat_string_string.f ll = some (allOf ll) := by
  unfold slices_Concat_string_string.f
  rw [if_pos ⟨h, h2⟩]
theorem names_l2 (l : List SE) (hl : l.length ≤ 1000) (x3 : List (List ByteArray)) (x4 : List ByteArray) : ∀ m i k, m + i = l.length → m < k → x3.length ≤ 1000 → x4.length ≤ 1000 → (allOf (x3 ++ (l.map (·.f1)) ++ [x4 ++ l.map (·.f0)])).length ≤ 1000000 →
    impl_Schema_names.l2 k (x3 ++ (l.take i).map (·.f1)) (x4 ++ (l.take i).map (·.f0)) l (l.length : Int) (i : Int) = some (allOf (x3 ++ l.map (·.f1) ++ [x4 ++ l.map (·.f0)]), x3 ++ l.map (·.f1) ++ [x4 ++ l.map (·.f0)]) := by
  intro m
  induction m with
  | zero =>
    intro i k hm hk h3 h4 hA
    obtain ⟨k, rfl⟩ : ∃ j, k = j + 1 := ⟨k - 1, by omega⟩
    obtain rfl : i = l.length := by omega
    unfold impl_Schema_names.l2
    rw [List.take_length, if_neg (by omega), if_pos (by simp; omega), Option.bind_some, concat_f _ hA (by simp; omega), Option.bind_some]
  | succ m ih =>
    intro i k hm hk h3 h4 hA
    obtain ⟨k, rfl⟩ : ∃ j, k = j + 1 := ⟨k - 1, by omega⟩
    have hi : i < l.length := by omega
    have e' := ih (i + 1) k (by omega) (by omega) h3 h4 hA
    have t1 : (l.take (i + 1)).map (·.f1) = (l.take i).map (·.f1) ++ [l[i].f1] := by rw [List.take_add_one, List.map_append]; simp [hi]
    have t0 : (l.take (i + 1)).map (·.f0) = (l.take i).map (·.f0) ++ [l[i].f0] := by rw [List.take_add_one, List.map_append]; simp [hi]
    rw [t1, t0, ← List.append_assoc, ← List.append_assoc] at e'
    have e'' : impl_Schema_names.l2 k (x3 ++ (l.take i).map (·.f1) ++ [l[i].f1]) (x4 ++ (l.take i).map (·.f0) ++ [l[i].f0]) l (l.length : Int) ((i : Int) + 1) = _ := e'
    unfold impl_Schema_names.l2
    rw [if_pos (by omega), if_pos (by omega), if_pos (by omega), if_pos (by simp; omega), if_pos (by simp; omega), wrap64_id (by omega) (by omega), rdE_at l i hi, e'']
theorem names_l1 (a0 : List SS) (a1 : List SE) (n i : Nat) (hi : i < 1000) (nm : ByteArray) (ds : List SD) (hd : ds.length ≤ 1000) (x3 : List (List ByteArray)) (x4 : List ByteArray) (h3 : x3.length ≤ 1000) (h4 : x4.length ≤ 1000) (R : List ByteArray × List (List ByteArray)) (K0 : Nat)
    (hR : ∀ k, K0 ≤ k → impl_Schema_names.l0 k (x3 ++ [ds.map (·.f0)]) (x4 ++ [nm]) a0 (n : Int) ((i : Int) + 1) a0 a1 = some R) : ∀ m j k, m + j = ds.length → K0 + m + 1 ≤ k →
    impl_Schema_names.l1 k x3 x4 ((ds.take j).map (·.f0)) a0 (n : Int) (i : Int) ds (ds.length : Int) (j : Int) a0 a1 nm ds = some R := by
  intro m
  induction m with
  | zero =>
    intro j k hm hk
    obtain ⟨k, rfl⟩ : ∃ q, k = q + 1 := ⟨k - 1, by omega⟩
    obtain rfl : j = ds.length := by omega
    unfold impl_Schema_names.l1
    rw [List.take_length, if_neg (by omega), if_pos (by omega), if_pos (by omega), wrap64_id (by omega) (by omega)]
    exact hR k (by omega)
  | succ m ih =>
    intro j k hm hk
    obtain ⟨k, rfl⟩ : ∃ q, k = q + 1 := ⟨k - 1, by omega⟩
    have hj : j < ds.length := by omega
    have e' := ih (j + 1) k (by omega) (by omega)
    have t0 : (ds.take (j + 1)).map (·.f0) = (ds.take j).map (·.f0) ++ [ds[j].f0] := by rw [List.take_add_one, List.map_append]; simp [hj]
    rw [t0] at e'
    unfold impl_Schema_names.l1
    rw [if_pos (by omega), if_pos (by omega), if_pos (by omega), if_pos (by simp; omega), wrap64_id (by omega) (by omega), rdD_at ds j hj]
    exact e'
theorem names_l0 (a0 : List SS) (a1 : List SE) (hS : Small a0 a1) (hA : (allOf (lotsOf a0 a1 ++ [topOf a0 a1])).length ≤ 1000000) : ∀ m i, m + i = a0.length → ∃ K, ∀ k, K ≤ k →
    impl_Schema_names.l0 k ((a0.take i).map (fun d => d.f1.map (·.f0))) ((a0.take i).map (·.f0)) a0 (a0.length : Int) (i : Int) a0 a1 = some (allOf (lotsOf a0 a1 ++ [topOf a0 a1]), lotsOf a0 a1 ++ [topOf a0 a1]) := by
  have n0 := hS.n0
  have n1 := hS.n1
  intro m
  induction m with
  | zero =>
    intro i hm
    refine ⟨1000, fun k hk => ?_⟩
    obtain ⟨k, rfl⟩ : ∃ q, k = q + 1 := ⟨k - 1, by omega⟩
    obtain rfl : i = a0.length := by omega
    unfold impl_Schema_names.l0
    rw [List.take_length, if_neg (by omega)]
    have e := names_l2 a1 (by omega) (a0.map (fun d : SS => d.f1.map (fun x : SD => x.f0))) (a0.map (fun d : SS => d.f0)) a1.length 0 k (by omega) (by omega) (by simp; omega) (by simp; omega) hA
    simp only [List.take_zero, List.map_nil, List.append_nil] at e
    exact e
  | succ m ih =>
    intro i hm
    obtain ⟨K, hK⟩ := ih (i + 1) (by omega)
    have hi : i < a0.length := by omega
    have hd := (hS.s0 a0[i] (List.getElem_mem _)).2.1
    refine ⟨K + 2000, fun k hk => ?_⟩
    obtain ⟨k, rfl⟩ : ∃ q, k = q + 1 := ⟨k - 1, by omega⟩
    have t1 : (a0.take (i + 1)).map (fun d => d.f1.map (·.f0)) = (a0.take i).map (fun d => d.f1.map (·.f0)) ++ [a0[i].f1.map (·.f0)] := by rw [List.take_add_one, List.map_append]; simp [hi]
    have t0 : (a0.take (i + 1)).map (·.f0) = (a0.take i).map (·.f0) ++ [a0[i].f0] := by rw [List.take_add_one, List.map_append]; simp [hi]
    rw [t1, t0] at hK
    unfold impl_Schema_names.l0
    rw [if_pos (by omega), if_pos (by omega), if_pos (by omega), rdS_at a0 i hi]
    exact names_l1 a0 a1 a0.length i (by omega) a0[i].f0 a0[i].f1 (by omega) _ _ (by simp; omega) (by simp; omega) _ K hK a0[i].f1.length 0 k (by omega) (by omega)
theorem allOf_bound (ll : List (List ByteArray)) (n : Nat) (h : ∀ l ∈ ll, l.length ≤ n) : (allOf ll).length ≤ ll.length * n := by
  unfold allOf
  induction ll with
  | nil => simp
  | cons l ll ih =>
    have h1 := h l (List.mem_cons_self ..)
    have h2 := ih (fun x hx => h x (List.mem_cons_of_mem _ hx))
    rw [List.flatten_cons, List.length_append, List.length_cons, Nat.add_mul, Nat.one_mul]
    omega
theorem lots_bound (a0 : List SS) (a1 : List SE) (hS : Small a0 a1) : (∀ l ∈ lotsOf a0 a1 ++ [topOf a0 a1], l.length ≤ 20 ∧ ∀ x ∈ l, x.size ≤ 20) ∧ (lotsOf a0 a1 ++ [topOf a0 a1]).length ≤ 21 := by
  have n0 := hS.n0
  have n1 := hS.n1
  refine ⟨fun l hl => ?_, by simp [lotsOf]; omega⟩
  simp only [lotsOf, topOf, List.mem_append, List.mem_map, List.mem_singleton] at hl
  rcases hl with (⟨d, hd, rfl⟩ | ⟨e, he, rfl⟩) | rfl
  · obtain ⟨h1, h2, h3⟩ := hS.s0 d hd
    refine ⟨by simp; omega, fun x hx => ?_⟩
    obtain ⟨y, hy, rfl⟩ := List.mem_map.1 hx
    exact (h3 y hy).1
  · obtain ⟨h1, h2, h3⟩ := hS.s1 e he
    exact ⟨by omega, h3⟩
  · refine ⟨by simp; omega, fun x hx => ?_⟩
    rcases List.mem_append.1 hx with hx | hx
    · obtain ⟨y, hy, rfl⟩ := List.mem_map.1 hx
      exact (hS.s0 y hy).1
    · obtain ⟨y, hy, rfl⟩ := List.mem_map.1 hx
      exact (hS.s1 y hy).1
theorem names_f (a0 : List SS) (a1 : List SE) (hS : Small a0 a1) : ∃ k, impl_Schema_names.f k a0 a1 = some (allOf (lotsOf a0 a1 ++ [topOf a0 a1]), lotsOf a0 a1 ++ [topOf a0 a1]) := by
  obtain ⟨hb, hn⟩ := lots_bound a0 a1 hS
  have hA := allOf_bound (lotsOf a0 a1 ++ [topOf a0 a1]) 20 (fun l hl => (hb l hl).1)
  obtain ⟨K, hK⟩ := names_l0 a0 a1 hS (by omega) a0.length 0 (by omega)
  exact ⟨K, hK K (Nat.le_refl _)⟩
end Go.Proofs.YtjeipkfeihahdaaGreatDoor.Lem
