/- Plain facts, merged out of several texts: LemSpecIdl, LemSpecIdl2, LemEvZ, LemSpecIdl4, LemSpecIdl5. -/
import Derived.Test.YtjeipkfeihahdaaGreatDoorStubIdl
import Derived.Test.YtjeipkfeihahdaaGreatDoorPx10
import Derived.Test.YtjeipkfeihahdaaGreatDoorPx11
import Derived.Test.YtjeipkfeihahdaaGreatDoorPxB
import Derived.Test.YtjeipkfeihahdaaGreatDoorPx15
import Derived.Test.YtjeipkfeihahdaaGreatDoorPx16
import Derived.Test.YtjeipkfeihahdaaGreatDoorStubFrm
section
namespace Go.Proofs.YtjeipkfeihahdaaGreatDoor.Lem
set_option linter.unusedVariables false
set_option linter.unusedSimpArgs false
open Go Go.RowKit Go.Proofs.YtjeipkfeihahdaaGreatDoor Go.Proofs.YtjeipkfeihahdaaGreatDoor.P Go.Proofs.YtjeipkfeihahdaaGreatDoorW.PrintWords Go.Proofs.YtjeipkfeihahdaaGreatDoorW.PrintLast Go.Proofs.YtjeipkfeihahdaaGreatDoorW.PrintMore
theorem struct_l (a : ByteArray) (l : List SS) (l1 : List SE) (hl : l.length ≤ 1000) : ∀ m i k, m + i = l.length → m < k → ∃ v, spec_l9Struct.l0 k a (i : Int) l l1 = some v ∧ (0 ≤ v ↔ (findS (l.drop i) a).isSome = true) := by
  intro m
  induction m with
  | zero =>
    intro i k hm hk
    obtain ⟨k, rfl⟩ : ∃ j, k = j + 1 := ⟨k - 1, by omega⟩
    unfold spec_l9Struct.l0
    rw [if_neg (by omega), List.drop_eq_nil_of_le (by omega)]
    exact ⟨-1, rfl, by simp [findS]⟩
  | succ m ih =>
    intro i k hm hk
    obtain ⟨k, rfl⟩ : ∃ j, k = j + 1 := ⟨k - 1, by omega⟩
    have hi : i < l.length := by omega
    obtain ⟨v, hv, hvi⟩ := ih (i + 1) k (by omega) (by omega)
    have e' : spec_l9Struct.l0 k a ((i : Int) + 1) l l1 = some v := hv
    unfold spec_l9Struct.l0
    rw [if_pos (by omega), if_pos (by omega), wrap64_id (by omega) (by omega), e', rdS_at l i hi, List.drop_eq_getElem_cons hi]
    unfold findS
    rw [List.find?_cons]
    by_cases h : l[i].f0.toList = a.toList
    · rw [if_pos h, decide_eq_true h]
      exact ⟨_, rfl, by simp⟩
    · rw [if_neg h, decide_eq_false h]
      exact ⟨v, rfl, hvi⟩
theorem struct_f (a : ByteArray) (l : List SS) (l1 : List SE) (hl : l.length ≤ 1000) (k : Nat) (hk : 1002 ≤ k) : ∃ v, spec_l9Struct.f k l l1 a = some v ∧ (0 ≤ v ↔ (findS l a).isSome = true) := by
  unfold spec_l9Struct.f
  exact struct_l a l l1 hl l.length 0 k (by omega) (by omega)
theorem enumS_l (a : ByteArray) (l0 : List SS) (l : List SE) (hl : l.length ≤ 1000) : ∀ m i k, m + i = l.length → m < k → ∃ v, spec_l9Enum.l0 k a (i : Int) l0 l = some v ∧ ((findE (l.drop i) a = none ∧ v = -1) ∨ ∃ j, ∃ h : j < l.length, v = (j : Int) ∧ findE (l.drop i) a = some l[j]) := by
  intro m
  induction m with
  | zero =>
    intro i k hm hk
    obtain ⟨k, rfl⟩ : ∃ j, k = j + 1 := ⟨k - 1, by omega⟩
    unfold spec_l9Enum.l0
    rw [if_neg (by omega), List.drop_eq_nil_of_le (by omega)]
    exact ⟨-1, rfl, .inl ⟨rfl, rfl⟩⟩
  | succ m ih =>
    intro i k hm hk
    obtain ⟨k, rfl⟩ : ∃ j, k = j + 1 := ⟨k - 1, by omega⟩
    have hi : i < l.length := by omega
    obtain ⟨v, hv, hvi⟩ := ih (i + 1) k (by omega) (by omega)
    have e' : spec_l9Enum.l0 k a ((i : Int) + 1) l0 l = some v := hv
    unfold spec_l9Enum.l0
    rw [if_pos (by omega), if_pos (by omega), wrap64_id (by omega) (by omega), e', rdE_at l i hi, List.drop_eq_getElem_cons hi]
    unfold findE
    rw [List.find?_cons]
    by_cases h : l[i].f0.toList = a.toList
    · rw [if_pos h, decide_eq_true h]
      exact ⟨_, rfl, .inr ⟨i, hi, rfl, rfl⟩⟩
    · rw [if_neg h, decide_eq_false h]
      exact ⟨v, rfl, hvi⟩
theorem enumS_f (a : ByteArray) (l0 : List SS) (l : List SE) (hl : l.length ≤ 1000) (k : Nat) (hk : 1002 ≤ k) : ∃ v, spec_l9Enum.f k l0 l a = some v ∧ ((findE l a = none ∧ v = -1) ∨ ∃ j, ∃ h : j < l.length, v = (j : Int) ∧ findE l a = some l[j]) := by
  unfold spec_l9Enum.f
  exact enumS_l a l0 l hl l.length 0 k (by omega) (by omega)
/-- The reference's size of a type; 0 if its base is none. -/
def ofF (l0 : List SS) (l1 : List SE) (b : ByteArray) (li : Bool) : Int := if li = true ∨ (findS l0 b).isSome = true then 6 else if (findE l1 b).isSome = true then 3 else baseSize b
theorem of9_f (l0 : List SS) (l1 : List SE) (hS : Small l0 l1) (b : ByteArray) (li : Bool) (k : Nat) (hk : 1005 ≤ k) : spec_l9Of.f k l0 l1 b li = some (ofF l0 l1 b li) := by
  have n0 := hS.n0
  have n1 := hS.n1
  obtain ⟨k, rfl⟩ : ∃ j, k = j + 1 := ⟨k - 1, by omega⟩
  have hj : ∀ s : Bool, spec_l9Of.j0 (k + 1) s l0 l1 b li = some (if s = true then 6 else if (findE l1 b).isSome = true then 3 else baseSize b) := fun s => by
    cases s
    · simp only [spec_l9Of.j0, Bool.false_eq_true, if_false]
      obtain ⟨v, hv, h⟩ := enumS_f b l0 l1 (by omega) k (by omega)
      rw [hv, Option.bind_some]
      rcases h with ⟨h1, rfl⟩ | ⟨j, hj, rfl, h1⟩
      · rw [if_neg (by decide), h1, l9Size_f]
        rfl
      · rw [if_pos (by omega), h1]
        rfl
    · rfl
  unfold spec_l9Of.f ofF
  cases li
  · rw [if_neg (by decide)]
    obtain ⟨v, hv, h⟩ := struct_f b l0 l1 (by omega) (k + 1) (by omega)
    rw [hv, Option.bind_some, hj]
    congr 1
    by_cases h0 : 0 ≤ v
    · have := h.1 h0
      simp [h0, this]
    · have : (findS l0 b).isSome = false := by cases hq : (findS l0 b).isSome with | false => rfl | true => exact absurd (h.2 hq) h0
      simp [h0, this]
  · rw [if_pos rfl, hj]
    simp
theorem baseSize_range (b : ByteArray) : 0 ≤ baseSize b ∧ baseSize b ≤ 6 := by
  unfold baseSize
  split <;> omega
theorem none_iff (l0 : List SS) (l1 : List SE) (b : ByteArray) (li : Bool) : (ofF l0 l1 b li = 0 ∨ ofF l0 l1 b false = 0) ↔ ¬ 0 ≤ sizeF l0 l1 b li := by
  rw [sizeF_eq]
  unfold ofF sizeB
  have := baseSize_range b
  cases li <;> cases (findS l0 b).isSome <;> cases (findE l1 b).isSome <;> simp <;> (try omega) <;> (by_cases h : baseSize b = 0 <;> simp [h] <;> omega)
theorem of_eq (l0 : List SS) (l1 : List SE) (b : ByteArray) (li : Bool) (h : 0 ≤ sizeF l0 l1 b li) : ofF l0 l1 b li = sizeF l0 l1 b li ∧ 1 ≤ sizeF l0 l1 b li ∧ sizeF l0 l1 b li ≤ 6 := by
  rw [sizeF_eq] at h ⊢
  unfold ofF
  unfold sizeB at h ⊢
  have := baseSize_range b
  revert h
  cases li <;> cases (findS l0 b).isSome <;> cases (findE l1 b).isSome <;> simp <;> (try omega) <;> (by_cases h : baseSize b = 0 <;> simp [h] <;> omega)
theorem bits_f (a : Int) (h : 0 ≤ a ∧ a ≤ 6) : spec_l2Bits.f a = some (bitsOf a) := by
  unfold spec_l2Bits.f
  simp only [Option.bind_some, List.length_cons, List.length_nil]
  rw [if_pos h.1, if_pos (by omega)]
  rfl
theorem l7Fits_f (size n : Int) (h : 1 ≤ size ∧ size ≤ 6) : spec_l7Fits.f size n = some (decide (Fits n size)) := by
  unfold spec_l7Fits.f
  by_cases h6 : size = 6
  · subst h6
    rw [if_pos rfl]
    congr 1
    unfold Fits
    by_cases h0 : n = 0 <;> simp [h0]
  · rw [if_neg h6]
    by_cases h5 : size = 5
    · subst h5
      rw [if_pos rfl]
      simp [Fits]
    · rw [if_neg h5, bits_f size (by omega)]
      simp only [Option.bind_some]
      have fin : ∀ s b m : Int, s ≤ 4 → bitsOf s = b → (2 : Int) ^ b.toNat - 1 = m → 0 ≤ b → wrap64 ((shl .i64 1 b) - 1) = m → (if 0 ≤ bitsOf s then ((spec_l1In.f n 0 (wrap64 ((shl .i64 1 (bitsOf s)) - 1))).bind fun t143 => (some t143)) else none) = some (decide (Fits n s)) := by
        intro s b m h1 h2 h3 h4 h5
        rw [h2, if_pos h4, h5, l1In_f, Option.bind_some, fits_low n s b m h1 h2 h3]
      rcases (by omega : size = 1 ∨ size = 2 ∨ size = 3 ∨ size = 4) with rfl | rfl | rfl | rfl
      · exact fin 1 1 1 (by decide) rfl (by decide) (by decide) (by first | rfl | decide +kernel)
      · exact fin 2 8 255 (by decide) rfl (by decide) (by decide) (by first | rfl | decide +kernel)
      · exact fin 3 16 65535 (by decide) rfl (by decide) (by decide) (by first | rfl | decide +kernel)
      · exact fin 4 32 4294967295 (by decide) rfl (by decide) (by decide) (by first | rfl | decide +kernel)
theorem num_f (n : Int) : spec_l9Num.f n = some (decide (-999999999999999999 ≤ n ∧ n ≤ 999999999999999999)) := by
  unfold spec_l9Num.f
  rw [l1In_f, Option.bind_some]
theorem else_f (l0 : List SS) (l1 : List SE) (hS : Small l0 l1) (x : SD) (hz : 0 ≤ sizeF l0 l1 x.f2.f0 x.f2.f1) (k : Nat) (hk : 1010 ≤ k) : spec_l9Else.f k l0 l1 x.f0 x.f1 x.f2.f0 x.f2.f1 x.f3 x.f4 = some (mayF l0 l1 x.f2.f0 x.f2.f1 x.f4) := by
  have n1 := hS.n1
  obtain ⟨k, rfl⟩ : ∃ j, k = j + 1 := ⟨k - 1, by omega⟩
  obtain ⟨he, h1, h6⟩ := of_eq l0 l1 x.f2.f0 x.f2.f1 hz
  have hj : ∀ v, spec_l9Else.j0 (k + 1) v false l0 l1 x.f0 x.f1 x.f2.f0 x.f2.f1 x.f3 x.f4 = some (decide (Fits x.f4 (sizeF l0 l1 x.f2.f0 x.f2.f1)) && decide (-999999999999999999 ≤ x.f4 ∧ x.f4 ≤ 999999999999999999)) := fun v => by
    simp only [spec_l9Else.j0, Bool.false_eq_true, if_false]
    rw [of9_f l0 l1 hS _ _ k (by omega), Option.bind_some, he, l7Fits_f _ _ ⟨h1, h6⟩, Option.bind_some, num_f, Option.bind_some]
    cases decide (Fits x.f4 (sizeF l0 l1 x.f2.f0 x.f2.f1)) <;> rfl
  unfold spec_l9Else.f
  obtain ⟨v, hv, h⟩ := enumS_f x.f2.f0 l0 l1 (by omega) (k + 1) (by omega)
  rw [hv, Option.bind_some]
  unfold mayF
  rcases h with ⟨hn, rfl⟩ | ⟨j, hjl, rfl, hn⟩
  · rw [if_neg (by decide), hj, hn]
  · rw [if_pos (by omega), hn]
    cases hli : x.f2.f1
    · have hw := (hS.s1 l1[j] (List.getElem_mem _)).2.1
      simp only [spec_l9Else.j0, Bool.not_false, if_true]
      rw [if_pos (by omega), if_pos (by omega), rdE_at l1 j hjl, wrap64_id (by omega) (by omega), l1In_f, Option.bind_some]
    · rw [hli] at hj
      simp only [Bool.not_true]
      rw [hj]
end Go.Proofs.YtjeipkfeihahdaaGreatDoor.Lem
end
section
namespace Go.Proofs.YtjeipkfeihahdaaGreatDoor.Lem
set_option linter.unusedVariables false
set_option linter.unusedSimpArgs false
open Go Go.RowKit Go.Proofs.YtjeipkfeihahdaaGreatDoor Go.Proofs.YtjeipkfeihahdaaGreatDoor.P Go.Proofs.YtjeipkfeihahdaaGreatDoorW.PrintWords Go.Proofs.YtjeipkfeihahdaaGreatDoorW.PrintLast Go.Proofs.YtjeipkfeihahdaaGreatDoorW.PrintMore
/-- A function of fuel comes to R from some fuel on. -/
def Ev {α : Type} (f : Nat → Option α) (R : α) : Prop := ∃ K, ∀ k, K ≤ k → f k = some R
theorem Ev.step {α : Type} {f g : Nat → Option α} {R : α} (h : Ev g R) (hs : ∀ k, f (k + 1) = g k) : Ev f R := by
  obtain ⟨K, hK⟩ := h
  refine ⟨K + 1, fun k hk => ?_⟩
  obtain ⟨k, rfl⟩ : ∃ j, k = j + 1 := ⟨k - 1, by omega⟩
  rw [hs]
  exact hK k (by omega)
theorem Ev.now {α : Type} {f : Nat → Option α} {R : α} (hs : ∀ k, f (k + 1) = some R) : Ev f R := ⟨1, fun k hk => by
  obtain ⟨k, rfl⟩ : ∃ j, k = j + 1 := ⟨k - 1, by omega⟩
  exact hs k⟩
/-- .. and behind a helper that comes to b. -/
theorem Ev.after {α β : Type} {f : Nat → Option α} {p : Nat → Option β} {b : β} {g : Nat → Option α} {R : α} (hp : Ev p b) (h : Ev g R) (hs : ∀ k, p k = some b → f (k + 1) = g k) : Ev f R := by
  obtain ⟨K, hK⟩ := h
  obtain ⟨L, hL⟩ := hp
  refine ⟨K + L + 1, fun k hk => ?_⟩
  obtain ⟨k, rfl⟩ : ∃ j, k = j + 1 := ⟨k - 1, by omega⟩
  rw [hs k (hL k (by omega))]
  exact hK k (by omega)
theorem Ev.const {α : Type} (R : α) : Ev (fun _ => some R) R := ⟨0, fun _ _ => rfl⟩
def bys (l : List ByteArray) : List (List UInt8) := l.map (·.data.toList)
def onceL (l : List ByteArray) : Bool := decide (bys l).Nodup
theorem rdOf_at (l : List ByteArray) (i : Nat) (hi : i < l.length) : rdOf ByteArray.empty l (i : Int) = l[i] := by
  unfold rdOf
  simp [hi]
theorem bys_take (l : List ByteArray) (i : Nat) (hi : i < l.length) : bys (l.take (i + 1)) = bys (l.take i) ++ [l[i].data.toList] := by
  unfold bys
  rw [List.take_add_one, List.map_append]
  simp [hi]
theorem onceL_take (l : List ByteArray) (i : Nat) (hi : i < l.length) : onceL (l.take (i + 1)) = (onceL (l.take i) && !decide (l[i].data.toList ∈ bys (l.take i))) := by
  unfold onceL
  rw [bys_take l i hi]
  by_cases h1 : (bys (l.take i)).Nodup <;> by_cases h2 : l[i].data.toList ∈ bys (l.take i) <;> simp [List.nodup_append, h1, h2]
  intro a ha he
  exact h2 (he ▸ ha)
theorem onceL_prefix (l : List ByteArray) (i : Nat) (h : onceL (l.take i) = false) : onceL l = false := by
  unfold onceL at h ⊢
  rw [decide_eq_false_iff_not] at h ⊢
  intro hn
  apply h
  unfold bys at hn ⊢
  rw [List.map_take]
  exact hn.sublist (List.take_sublist _ _)
theorem twice_l1 (l : List ByteArray) (i : Nat) (hi : i < l.length) (hl : l.length ≤ 1000) (R : Bool) (hR : l[i].data.toList ∉ bys (l.take i) → Ev (fun k => spec_l9Twice.l0 k l ((i : Int) + 1)) R) (hT : l[i].data.toList ∈ bys (l.take i) → R = true) : ∀ m j, m + j = i → l[i].data.toList ∉ bys (l.take j) →
    Ev (fun k => spec_l9Twice.l1 k l (i : Int) (j : Int)) R := by
  intro m
  induction m with
  | zero =>
    intro j hm hj
    obtain rfl : j = i := by omega
    refine Ev.step (hR hj) (fun k => ?_)
    simp only [spec_l9Twice.l1]
    rw [if_neg (by omega), wrap64_id (by omega) (by omega)]
  | succ m ih =>
    intro j hm hj
    have hjl : j < l.length := by omega
    by_cases he : l[j].data.toList = l[i].data.toList
    · have hin : l[i].data.toList ∈ bys (l.take i) := by
        unfold bys
        rw [List.mem_map]
        exact ⟨l[j], List.mem_take_iff_getElem.2 ⟨j, by omega, rfl⟩, he⟩
      rw [hT hin]
      refine Ev.now (fun k => ?_)
      simp only [spec_l9Twice.l1]
      rw [if_pos (by omega), if_pos (by omega), if_pos (by omega), if_pos (by omega), if_pos (by omega), rdOf_at l j hjl, rdOf_at l i hi, ByteArray.toList_eq, ByteArray.toList_eq, if_pos he]
    · refine Ev.step (ih (j + 1) (by omega) (by rw [bys_take l j hjl]; simp [hj, Ne.symm he])) (fun k => ?_)
      simp only [spec_l9Twice.l1]
      rw [if_pos (by omega), if_pos (by omega), if_pos (by omega), if_pos (by omega), if_pos (by omega), rdOf_at l j hjl, rdOf_at l i hi, ByteArray.toList_eq, ByteArray.toList_eq, if_neg he, wrap64_id (by omega) (by omega)]
      rfl
theorem twice_l0 (l : List ByteArray) (hl : l.length ≤ 1000) : ∀ m i, m + i = l.length → onceL (l.take i) = true → Ev (fun k => spec_l9Twice.l0 k l (i : Int)) (!onceL l) := by
  intro m
  induction m with
  | zero =>
    intro i hm ho
    obtain rfl : i = l.length := by omega
    rw [List.take_length] at ho
    refine Ev.now (fun k => ?_)
    simp only [spec_l9Twice.l0]
    rw [if_neg (by omega), ho]
    rfl
  | succ m ih =>
    intro i hm ho
    have hi : i < l.length := by omega
    have h1 := twice_l1 l i hi hl (!onceL l) (fun hni => ih (i + 1) (by omega) (by rw [onceL_take l i hi, ho]; simp [hni])) (fun hin => by
      have := onceL_prefix l (i + 1) (by rw [onceL_take l i hi]; simp [hin])
      rw [this]; rfl) i 0 (by omega) (by simp [bys])
    refine Ev.step h1 (fun k => ?_)
    simp only [spec_l9Twice.l0]
    rw [if_pos (by omega)]
    rfl
theorem twice_f (l : List ByteArray) (hl : l.length ≤ 1000) : Ev (fun k => spec_l9Twice.f k l) (!onceL l) := twice_l0 l hl l.length 0 (by omega) (by simp [onceL, bys])
theorem namesS_l2 (l0 : List SS) (l1 : List SE) (hS : Small l0 l1) (t0 : List ByteArray) (ht : t0.length ≤ 10) : ∀ m i, m + i = l1.length → Ev (fun k => spec_l9Names.l2 k (t0 ++ (l1.take i).map (·.f0)) (i : Int) l0 l1) (!((l1.drop i).all (fun e => onceL e.f1) && onceL (t0 ++ l1.map (·.f0)))) := by
  have n1 := hS.n1
  intro m
  induction m with
  | zero =>
    intro i hm
    obtain rfl : i = l1.length := by omega
    rw [List.drop_length, List.take_length]
    refine Ev.after (twice_f (t0 ++ l1.map (·.f0)) (by simp; omega)) (Ev.const _) (fun k hk => ?_)
    simp only [spec_l9Names.l2]
    rw [if_neg (by omega), hk]
    simp
  | succ m ih =>
    intro i hm
    have hi : i < l1.length := by omega
    have hw := (hS.s1 l1[i] (List.getElem_mem _)).2.1
    have ht0 : t0 ++ (l1.take (i + 1)).map (·.f0) = t0 ++ (l1.take i).map (·.f0) ++ [l1[i].f0] := by rw [List.take_add_one, List.map_append]; simp [hi]
    have ih' := ih (i + 1) (by omega)
    rw [ht0] at ih'
    rw [List.drop_eq_getElem_cons hi, List.all_cons]
    cases ho : onceL l1[i].f1
    · refine Ev.after (twice_f l1[i].f1 (by omega)) (Ev.const _) (fun k hk => ?_)
      simp only [spec_l9Names.l2]
      rw [if_pos (by omega), if_pos (by omega), if_pos (by simp; omega), rdE_at l1 i hi, hk, ho]
      simp
    · rw [Bool.true_and]
      refine Ev.after (twice_f l1[i].f1 (by omega)) ih' (fun k hk => ?_)
      simp only [spec_l9Names.l2]
      rw [if_pos (by omega), if_pos (by omega), if_pos (by simp; omega), rdE_at l1 i hi, hk, ho, wrap64_id (by omega) (by omega)]
      simp
theorem namesS_l1 (l0 : List SS) (l1 : List SE) (x3 : List ByteArray) (i : Nat) (hi : i < l0.length) (hn : l0.length ≤ 10) (hd : l0[i].f1.length ≤ 10) (R : Bool) (hR : onceL (l0[i].f1.map (·.f0)) = true → Ev (fun k => spec_l9Names.l0 k x3 ((i : Int) + 1) l0 l1) R) (hT : onceL (l0[i].f1.map (·.f0)) = false → R = true) : ∀ m j, m + j = l0[i].f1.length →
    Ev (fun k => spec_l9Names.l1 k x3 (i : Int) ((l0[i].f1.take j).map (·.f0)) (j : Int) l0 l1) R := by
  intro m
  induction m with
  | zero =>
    intro j hm
    obtain rfl : j = l0[i].f1.length := by omega
    rw [List.take_length]
    cases ho : onceL (l0[i].f1.map (·.f0))
    · rw [hT ho]
      refine Ev.after (twice_f (l0[i].f1.map (·.f0)) (by simp; omega)) (Ev.const _) (fun k hk => ?_)
      simp only [spec_l9Names.l1]
      rw [if_pos (by omega), if_pos (by omega), rdS_at l0 i hi, if_neg (by omega), hk, ho]
      simp
    · refine Ev.after (twice_f (l0[i].f1.map (·.f0)) (by simp; omega)) (hR ho) (fun k hk => ?_)
      simp only [spec_l9Names.l1]
      rw [if_pos (by omega), if_pos (by omega), rdS_at l0 i hi, if_neg (by omega), hk, ho, wrap64_id (by omega) (by omega)]
      simp
  | succ m ih =>
    intro j hm
    have hj : j < l0[i].f1.length := by omega
    have ht0 : (l0[i].f1.take (j + 1)).map (·.f0) = (l0[i].f1.take j).map (·.f0) ++ [l0[i].f1[j].f0] := by rw [List.take_add_one, List.map_append]; simp [hj]
    have ih' := ih (j + 1) (by omega)
    rw [ht0] at ih'
    refine Ev.step ih' (fun k => ?_)
    simp only [spec_l9Names.l1]
    rw [if_pos (by omega), if_pos (by omega), rdS_at l0 i hi, if_pos (by omega), if_pos (by omega), if_pos (by simp; omega), rdD_at _ j hj, wrap64_id (by omega) (by omega)]
    rfl
def onceN (l0 : List SS) (l1 : List SE) : Bool := (lotsOf l0 l1 ++ [topOf l0 l1]).all onceL
theorem namesS_l0 (l0 : List SS) (l1 : List SE) (hS : Small l0 l1) : ∀ m i, m + i = l0.length → Ev (fun k => spec_l9Names.l0 k ((l0.take i).map (·.f0)) (i : Int) l0 l1) (!((l0.drop i).all (fun d => onceL (d.f1.map (·.f0))) && (l1.all (fun e => onceL e.f1) && onceL (topOf l0 l1)))) := by
  have n0 := hS.n0
  intro m
  induction m with
  | zero =>
    intro i hm
    obtain rfl : i = l0.length := by omega
    rw [List.drop_length, List.take_length]
    refine Ev.step (namesS_l2 l0 l1 hS (l0.map (·.f0)) (by simp; omega) l1.length 0 (by omega)) (fun k => ?_)
    simp only [spec_l9Names.l0]
    rw [if_neg (by omega)]
    simp
  | succ m ih =>
    intro i hm
    have hi : i < l0.length := by omega
    have hd := (hS.s0 l0[i] (List.getElem_mem _)).2.1
    have ht0 : (l0.take (i + 1)).map (·.f0) = (l0.take i).map (·.f0) ++ [l0[i].f0] := by rw [List.take_add_one, List.map_append]; simp [hi]
    have ih' := ih (i + 1) (by omega)
    rw [ht0] at ih'
    rw [List.drop_eq_getElem_cons hi, List.all_cons]
    refine Ev.step (namesS_l1 l0 l1 ((l0.take i).map (·.f0) ++ [l0[i].f0]) i hi n0 hd _ (fun ho => ?_) (fun ho => by rw [ho]; rfl) l0[i].f1.length 0 (by omega)) (fun k => ?_)
    · rw [ho, Bool.true_and]
      exact ih'
    · simp only [spec_l9Names.l0]
      rw [if_pos (by omega), if_pos (by omega), if_pos (by simp; omega), rdS_at l0 i hi]
      rfl
theorem namesS_f (l0 : List SS) (l1 : List SE) (hS : Small l0 l1) : Ev (fun k => spec_l9Names.f k l0 l1) (!onceN l0 l1) := by
  have h := namesS_l0 l0 l1 hS l0.length 0 (by omega)
  have e : onceN l0 l1 = ((l0.drop 0).all (fun d => onceL (d.f1.map (·.f0))) && (l1.all (fun e => onceL e.f1) && onceL (topOf l0 l1))) := by
    unfold onceN lotsOf
    rw [List.all_append, List.all_append, List.all_map, List.all_map]
    simp [Function.comp_def, Bool.and_assoc]
  rw [e]
  exact h
end Go.Proofs.YtjeipkfeihahdaaGreatDoor.Lem
end
section
namespace Go.Proofs.YtjeipkfeihahdaaGreatDoor.Lem
set_option linter.unusedVariables false
set_option linter.unusedSimpArgs false
open Go Go.RowKit Go.Proofs.YtjeipkfeihahdaaGreatDoor Go.Proofs.YtjeipkfeihahdaaGreatDoor.P Go.Proofs.YtjeipkfeihahdaaGreatDoorW.PrintWords Go.Proofs.YtjeipkfeihahdaaGreatDoorW.PrintLast Go.Proofs.YtjeipkfeihahdaaGreatDoorW.PrintMore
theorem Ev.after' {α : Type} {f g : Nat → Option α} {R : α} {P : Nat → Prop} (hp : ∃ K, ∀ k, K ≤ k → P k) (h : Ev g R) (hs : ∀ k, P k → f (k + 1) = g k) : Ev f R := by
  obtain ⟨K, hK⟩ := h
  obtain ⟨L, hL⟩ := hp
  refine ⟨K + L + 1, fun k hk => ?_⟩
  obtain ⟨k, rfl⟩ : ∃ j, k = j + 1 := ⟨k - 1, by omega⟩
  rw [hs k (hL k (by omega))]
  exact hK k (by omega)
theorem formS_f (l0 : List SS) (l1 : List SE) (hS : Small l0 l1) : Ev (fun _ => spec_l9Form.f l0 l1) (formedF l0 l1) := ⟨0, fun _ _ => formS_some hS⟩
end Go.Proofs.YtjeipkfeihahdaaGreatDoor.Lem
end
section
namespace Go.Proofs.YtjeipkfeihahdaaGreatDoor.Lem
set_option linter.unusedVariables false
set_option linter.unusedSimpArgs false
open Go Go.RowKit Go.Proofs.YtjeipkfeihahdaaGreatDoor Go.Proofs.YtjeipkfeihahdaaGreatDoor.P Go.Proofs.YtjeipkfeihahdaaGreatDoorW.PrintWords Go.Proofs.YtjeipkfeihahdaaGreatDoorW.PrintLast Go.Proofs.YtjeipkfeihahdaaGreatDoorW.PrintMore
section
variable (l0 : List SS) (l1 : List SE) (hS : Small l0 l1)
abbrev sizeOk (l0 : List SS) (l1 : List SE) (x : SD) : Bool := decide (0 ≤ sizeF l0 l1 x.f2.f0 x.f2.f1)
abbrev mayOk (l0 : List SS) (l1 : List SE) (x : SD) : Bool := mayF l0 l1 x.f2.f0 x.f2.f1 x.f4
include hS
theorem chk_l5 (hz : allD l0 (sizeOk l0 l1) = true) (i : Nat) (hi : i < l0.length) (R : Int) (hR : Ev (fun k => spec_IdlCheck.l4 k ((i : Int) + 1) l0 l1) R) : ∀ m j, m + j = l0[i].f1.length → Ev (fun k => spec_IdlCheck.l5 k (i : Int) (j : Int) l0 l1) (if (l0[i].f1.drop j).all (mayOk l0 l1) = true then R else 5) := by
  have n0 := hS.n0
  have hw := (hS.s0 l0[i] (List.getElem_mem _)).2.1
  intro m
  induction m with
  | zero =>
    intro j hm
    obtain rfl : j = l0[i].f1.length := by omega
    rw [List.drop_length]
    refine Ev.step hR (fun k => ?_)
    simp only [spec_IdlCheck.l5]
    rw [if_pos (by omega), if_pos (by omega), rdS_at l0 i hi, if_neg (by omega), wrap64_id (by omega) (by omega)]
  | succ m ih =>
    intro j hm
    have hj : j < l0[i].f1.length := by omega
    have hzx : 0 ≤ sizeF l0 l1 l0[i].f1[j].f2.f0 l0[i].f1[j].f2.f1 := by
      unfold allD at hz
      rw [List.all_eq_true] at hz
      have h2 := hz _ (List.getElem_mem hi)
      rw [List.all_eq_true] at h2
      simpa using h2 _ (List.getElem_mem hj)
    have he : Ev (fun k => spec_l9Else.f k l0 l1 l0[i].f1[j].f0 l0[i].f1[j].f1 l0[i].f1[j].f2.f0 l0[i].f1[j].f2.f1 l0[i].f1[j].f3 l0[i].f1[j].f4) (mayOk l0 l1 l0[i].f1[j]) := ⟨1010, fun k hk => else_f l0 l1 hS _ hzx k hk⟩
    rw [List.drop_eq_getElem_cons hj, List.all_cons]
    cases ho : mayOk l0 l1 l0[i].f1[j]
    · refine Ev.after he (Ev.const _) (fun k hk => ?_)
      simp only [spec_IdlCheck.l5]
      rw [if_pos (by omega), if_pos (by omega), rdS_at l0 i hi, if_pos (by omega), if_pos (by omega), rdD_at _ j hj, hk, ho]
      simp
    · rw [Bool.true_and]
      refine Ev.after he (ih (j + 1) (by omega)) (fun k hk => ?_)
      simp only [spec_IdlCheck.l5]
      rw [if_pos (by omega), if_pos (by omega), rdS_at l0 i hi, if_pos (by omega), if_pos (by omega), rdD_at _ j hj, hk, ho, wrap64_id (by omega) (by omega)]
      simp
theorem chk_l4 (hz : allD l0 (sizeOk l0 l1) = true) : ∀ m i, m + i = l0.length → Ev (fun k => spec_IdlCheck.l4 k (i : Int) l0 l1) (if (l0.drop i).all (fun d => d.f1.all (mayOk l0 l1)) = true then 0 else 5) := by
  have n0 := hS.n0
  intro m
  induction m with
  | zero =>
    intro i hm
    obtain rfl : i = l0.length := by omega
    rw [List.drop_length]
    refine Ev.now (fun k => ?_)
    simp only [spec_IdlCheck.l4]
    rw [if_neg (by omega)]
    rfl
  | succ m ih =>
    intro i hm
    have hi : i < l0.length := by omega
    have h := chk_l5 l0 l1 hS hz i hi _ (ih (i + 1) (by omega)) l0[i].f1.length 0 (by omega)
    rw [List.drop_zero] at h
    rw [List.drop_eq_getElem_cons hi, List.all_cons]
    have e : (if (l0[i].f1.all (mayOk l0 l1) && (l0.drop (i + 1)).all (fun d => d.f1.all (mayOk l0 l1))) = true then (0 : Int) else 5) = (if l0[i].f1.all (mayOk l0 l1) = true then (if (l0.drop (i + 1)).all (fun d => d.f1.all (mayOk l0 l1)) = true then 0 else 5) else 5) := by
      cases l0[i].f1.all (mayOk l0 l1) <;> simp
    rw [e]
    refine Ev.step h (fun k => ?_)
    simp only [spec_IdlCheck.l4]
    rw [if_pos (by omega)]
    rfl
omit hS
theorem decl9_l (nm : ByteArray) (ord : Int) (ds : List SD) (hd : ds.length ≤ 1000) : ∀ m i, m + i = ds.length → ∃ v, Ev (fun k => spec_l9Decl.l0 k ord (i : Int) nm ds) v ∧ ((v = -1 ∧ (ds.drop i).any (fun x => decide (x.f1 = ord)) = false) ∨ (∃ j, ∃ h : j < ds.length, v = (j : Int) ∧ ds[j].f1 = ord ∧ (ds.drop i).any (fun x => decide (x.f1 = ord)) = true)) := by
  intro m
  induction m with
  | zero =>
    intro i hm
    obtain rfl : i = ds.length := by omega
    rw [List.drop_length]
    refine ⟨-1, Ev.now (fun k => ?_), .inl ⟨rfl, rfl⟩⟩
    simp only [spec_l9Decl.l0]
    rw [if_neg (by omega)]
  | succ m ih =>
    intro i hm
    have hi : i < ds.length := by omega
    obtain ⟨v, hv, h⟩ := ih (i + 1) (by omega)
    rw [List.drop_eq_getElem_cons hi, List.any_cons]
    by_cases ho : ds[i].f1 = ord
    · refine ⟨(i : Int), Ev.now (fun k => ?_), .inr ⟨i, hi, rfl, ho, by simp [ho]⟩⟩
      simp only [spec_l9Decl.l0]
      rw [if_pos (by omega), if_pos (by omega), rdD_at _ i hi, if_pos ho]
    · refine ⟨v, Ev.step hv (fun k => ?_), ?_⟩
      · simp only [spec_l9Decl.l0]
        rw [if_pos (by omega), if_pos (by omega), rdD_at _ i hi, if_neg ho, wrap64_id (by omega) (by omega)]
        rfl
      · rw [decide_eq_false ho, Bool.false_or]
        exact h
theorem decl9_f (nm : ByteArray) (ord : Int) (ds : List SD) (hd : ds.length ≤ 1000) : ∃ v, Ev (fun k => spec_l9Decl.f k nm ds ord) v ∧ ((v = -1 ∧ ds.any (fun x => decide (x.f1 = ord)) = false) ∨ (∃ j, ∃ h : j < ds.length, v = (j : Int) ∧ ds[j].f1 = ord ∧ ds.any (fun x => decide (x.f1 = ord)) = true)) := decl9_l nm ord ds hd ds.length 0 (by omega)
def hasOrd (ds : List SD) (k : Nat) : Bool := ds.any (fun x => decide (x.f1 = (k : Int)))
include hS
theorem chk_l3 (i : Nat) (hi : i < l0.length) (R : Int) (hR : Ev (fun k => spec_IdlCheck.l2 k ((i : Int) + 1) l0 l1) R) : ∀ m j, m + j = l0[i].f1.length → Ev (fun k => spec_IdlCheck.l3 k (i : Int) (j : Int) l0 l1) (if ((List.range l0[i].f1.length).drop j).all (hasOrd l0[i].f1) = true then R else 4) := by
  have n0 := hS.n0
  have hw := (hS.s0 l0[i] (List.getElem_mem _)).2.1
  intro m
  induction m with
  | zero =>
    intro j hm
    obtain rfl : j = l0[i].f1.length := by omega
    rw [List.drop_of_length_le (by simp)]
    refine Ev.step hR (fun k => ?_)
    simp only [spec_IdlCheck.l3]
    rw [if_pos (by omega), if_pos (by omega), rdS_at l0 i hi, if_neg (by omega), wrap64_id (by omega) (by omega)]
  | succ m ih =>
    intro j hm
    have hj : j < l0[i].f1.length := by omega
    obtain ⟨v, hv, h⟩ := decl9_f l0[i].f0 (j : Int) l0[i].f1 (by omega)
    rw [List.drop_eq_getElem_cons (by simpa using hj), List.all_cons, List.getElem_range]
    have ho : hasOrd l0[i].f1 j = l0[i].f1.any (fun x => decide (x.f1 = (j : Int))) := rfl
    rcases h with ⟨rfl, hf⟩ | ⟨q, hq, rfl, _, hf⟩
    · rw [ho, hf]
      refine Ev.after hv (Ev.const _) (fun k hk => ?_)
      simp only [spec_IdlCheck.l3]
      rw [if_pos (by omega), if_pos (by omega), rdS_at l0 i hi, if_pos (by omega), hk]
      simp
    · rw [ho, hf, Bool.true_and]
      refine Ev.after hv (ih (j + 1) (by omega)) (fun k hk => ?_)
      simp only [spec_IdlCheck.l3]
      rw [if_pos (by omega), if_pos (by omega), rdS_at l0 i hi, if_pos (by omega), hk, Option.bind_some, if_neg (by omega), wrap64_id (by omega) (by omega)]
      rfl
def ordS (l : List SS) : Bool := l.all (fun d => (List.range d.f1.length).all (hasOrd d.f1))
theorem chk_l2 (R : Int) (hR : Ev (fun k => spec_IdlCheck.l4 k 0 l0 l1) R) : ∀ m i, m + i = l0.length → Ev (fun k => spec_IdlCheck.l2 k (i : Int) l0 l1) (if ordS (l0.drop i) = true then R else 4) := by
  have n0 := hS.n0
  intro m
  induction m with
  | zero =>
    intro i hm
    obtain rfl : i = l0.length := by omega
    rw [List.drop_length]
    refine Ev.step hR (fun k => ?_)
    simp only [spec_IdlCheck.l2]
    rw [if_neg (by omega)]
  | succ m ih =>
    intro i hm
    have hi : i < l0.length := by omega
    have h := chk_l3 l0 l1 hS i hi _ (ih (i + 1) (by omega)) l0[i].f1.length 0 (by omega)
    rw [List.drop_zero] at h
    have e : (if ordS (l0.drop i) = true then R else 4) = (if (List.range l0[i].f1.length).all (hasOrd l0[i].f1) = true then (if ordS (l0.drop (i + 1)) = true then R else 4) else 4) := by
      rw [List.drop_eq_getElem_cons hi]
      unfold ordS
      rw [List.all_cons]
      cases (List.range l0[i].f1.length).all (hasOrd l0[i].f1) <;> simp
    rw [e]
    refine Ev.step h (fun k => ?_)
    simp only [spec_IdlCheck.l2]
    rw [if_pos (by omega)]
    rfl
theorem chk_l1 (i : Nat) (hi : i < l0.length) (R : Int) (hR : l0[i].f1.all (sizeOk l0 l1) = true → Ev (fun k => spec_IdlCheck.l0 k ((i : Int) + 1) l0 l1) R) : ∀ m j, m + j = l0[i].f1.length → (l0[i].f1.take j).all (sizeOk l0 l1) = true → Ev (fun k => spec_IdlCheck.l1 k (i : Int) (j : Int) l0 l1) (if (l0[i].f1.drop j).all (sizeOk l0 l1) = true then R else 3) := by
  have n0 := hS.n0
  have hw := (hS.s0 l0[i] (List.getElem_mem _)).2.1
  intro m
  induction m with
  | zero =>
    intro j hm ht
    obtain rfl : j = l0[i].f1.length := by omega
    rw [List.take_length] at ht
    rw [List.drop_length]
    refine Ev.step (hR ht) (fun k => ?_)
    simp only [spec_IdlCheck.l1]
    rw [if_pos (by omega), if_pos (by omega), rdS_at l0 i hi, if_neg (by omega), wrap64_id (by omega) (by omega)]
  | succ m ih =>
    intro j hm ht
    have hj : j < l0[i].f1.length := by omega
    have hb : ∃ K, ∀ k, K ≤ k → spec_l9Of.f k l0 l1 l0[i].f1[j].f2.f0 l0[i].f1[j].f2.f1 = some (ofF l0 l1 l0[i].f1[j].f2.f0 l0[i].f1[j].f2.f1) ∧ spec_l9Of.f k l0 l1 l0[i].f1[j].f2.f0 false = some (ofF l0 l1 l0[i].f1[j].f2.f0 false) := ⟨1005, fun k hk => ⟨of9_f l0 l1 hS _ _ k hk, of9_f l0 l1 hS _ _ k hk⟩⟩
    have hni := none_iff l0 l1 l0[i].f1[j].f2.f0 l0[i].f1[j].f2.f1
    rw [List.drop_eq_getElem_cons hj, List.all_cons]
    by_cases ho : 0 ≤ sizeF l0 l1 l0[i].f1[j].f2.f0 l0[i].f1[j].f2.f1
    · have ho' : sizeOk l0 l1 l0[i].f1[j] = true := decide_eq_true ho
      have hne : ¬ (ofF l0 l1 l0[i].f1[j].f2.f0 l0[i].f1[j].f2.f1 = 0 ∨ ofF l0 l1 l0[i].f1[j].f2.f0 false = 0) := fun h => hni.1 h ho
      rw [ho', Bool.true_and]
      refine Ev.after' hb (ih (j + 1) (by omega) (by rw [take_all _ _ j hj, ht, ho']; rfl)) (fun k hk => ?_)
      simp only [spec_IdlCheck.l1]
      rw [if_pos (by omega), if_pos (by omega), rdS_at l0 i hi, if_pos (by omega), if_pos (by omega), rdD_at _ j hj, hk.1, Option.bind_some, if_neg (fun h => hne (.inl h)), hk.2, Option.bind_some, if_neg (fun h => hne (.inr h)), wrap64_id (by omega) (by omega)]
      rfl
    · have ho' : sizeOk l0 l1 l0[i].f1[j] = false := decide_eq_false ho
      rw [ho']
      refine Ev.after' hb (Ev.const _) (fun k hk => ?_)
      simp only [spec_IdlCheck.l1]
      rw [if_pos (by omega), if_pos (by omega), rdS_at l0 i hi, if_pos (by omega), if_pos (by omega), rdD_at _ j hj, hk.1, Option.bind_some]
      rcases hni.2 ho with h | h
      · rw [if_pos h]; rfl
      · by_cases h2 : ofF l0 l1 l0[i].f1[j].f2.f0 l0[i].f1[j].f2.f1 = 0
        · rw [if_pos h2]; rfl
        · rw [if_neg h2, hk.2, Option.bind_some, if_pos h]; rfl
theorem chk_l0 (R : Int) (hR : allD l0 (sizeOk l0 l1) = true → Ev (fun k => spec_IdlCheck.l2 k 0 l0 l1) R) : ∀ m i, m + i = l0.length → (l0.take i).all (fun d => d.f1.all (sizeOk l0 l1)) = true → Ev (fun k => spec_IdlCheck.l0 k (i : Int) l0 l1) (if (l0.drop i).all (fun d => d.f1.all (sizeOk l0 l1)) = true then R else 3) := by
  have n0 := hS.n0
  intro m
  induction m with
  | zero =>
    intro i hm ht
    obtain rfl : i = l0.length := by omega
    rw [List.take_length] at ht
    rw [List.drop_length]
    refine Ev.step (hR ht) (fun k => ?_)
    simp only [spec_IdlCheck.l0]
    rw [if_neg (by omega)]
  | succ m ih =>
    intro i hm ht
    have hi : i < l0.length := by omega
    have h := chk_l1 l0 l1 hS i hi _ (fun hz => ih (i + 1) (by omega) (by rw [take_all _ _ i hi, ht, hz]; rfl)) l0[i].f1.length 0 (by omega) rfl
    rw [List.drop_zero] at h
    rw [List.drop_eq_getElem_cons hi, List.all_cons]
    have e : (if (l0[i].f1.all (sizeOk l0 l1) && (l0.drop (i + 1)).all (fun d => d.f1.all (sizeOk l0 l1))) = true then R else 3) = (if l0[i].f1.all (sizeOk l0 l1) = true then (if (l0.drop (i + 1)).all (fun d => d.f1.all (sizeOk l0 l1)) = true then R else 3) else 3) := by
      cases l0[i].f1.all (sizeOk l0 l1) <;> simp
    rw [e]
    refine Ev.step h (fun k => ?_)
    simp only [spec_IdlCheck.l0]
    rw [if_pos (by omega)]
    rfl
end
end Go.Proofs.YtjeipkfeihahdaaGreatDoor.Lem
end
section
namespace Go.Proofs.YtjeipkfeihahdaaGreatDoor.Lem
set_option linter.unusedVariables false
set_option linter.unusedSimpArgs false
open Go Go.RowKit Go.Proofs.YtjeipkfeihahdaaGreatDoor Go.Proofs.YtjeipkfeihahdaaGreatDoor.P Go.Proofs.YtjeipkfeihahdaaGreatDoorW.PrintWords Go.Proofs.YtjeipkfeihahdaaGreatDoorW.PrintLast Go.Proofs.YtjeipkfeihahdaaGreatDoorW.PrintMore
/-! numbers from 0 on, each once -/
theorem up_low (a : Nat → Int) (n : Nat) (up : ∀ i j, i < j → j < n → a i ≤ a j) (has : ∀ k, k < n → ∃ p, p < n ∧ a p = (k : Int)) : ∀ k, k < n → ∀ p, p < n → a p = (k : Int) → k ≤ p := by
  intro k
  induction k with
  | zero => intro _ p _ _; exact Nat.zero_le _
  | succ k ih =>
    intro hk p hp hap
    obtain ⟨q, hq, haq⟩ := has k (by omega)
    have h1 := ih (by omega) q hq haq
    have h2 : q < p := by
      rcases Nat.lt_or_ge q p with h | h
      · exact h
      · rcases Nat.lt_or_eq_of_le h with h | h
        · have := up p q h hq
          omega
        · subst h; omega
    omega
theorem up_high (a : Nat → Int) (n : Nat) (up : ∀ i j, i < j → j < n → a i ≤ a j) (has : ∀ k, k < n → ∃ p, p < n ∧ a p = (k : Int)) : ∀ m k, k + m + 1 = n → ∀ p, p < n → a p = (k : Int) → p ≤ k := by
  intro m
  induction m with
  | zero => intro k hk p hp _; omega
  | succ m ih =>
    intro k hk p hp hap
    obtain ⟨q, hq, haq⟩ := has (k + 1) (by omega)
    have h1 := ih (k + 1) (by omega) q hq haq
    have h2 : p < q := by
      rcases Nat.lt_or_ge p q with h | h
      · exact h
      · rcases Nat.lt_or_eq_of_le h with h | h
        · have := up q p h hp
          omega
        · subst h; omega
    omega
theorem ord_eq (ds : List SD) : (List.range ds.length).all (hasOrd ds) = ordOne ds := by
  rw [Bool.eq_iff_iff]
  unfold ordOne hasOrd
  simp only [List.all_eq_true, List.any_eq_true, decide_eq_true_eq, List.mem_range]
  have hl := ordSorted_length ds
  have hp := ordSorted_perm ds
  constructor
  · intro h i hi
    have has : ∀ k, k < ds.length → ∃ p, p < ds.length ∧ ((ordSorted ds)[p]?.getD zD).f1 = (k : Int) := fun k hk => by
      obtain ⟨x, hx, hxk⟩ := h k hk
      have hx' := hp.mem_iff.2 hx
      obtain ⟨p, hpl, rfl⟩ := List.mem_iff_getElem.1 hx'
      exact ⟨p, by omega, by rw [List.getElem?_eq_getElem hpl]; exact hxk⟩
    have up := fun i j (h1 : i < j) (h2 : j < ds.length) => ordSorted_up ds i j h1 h2
    obtain ⟨p, hpn, hpe⟩ := has i hi
    have e1 := up_low (fun p => ((ordSorted ds)[p]?.getD zD).f1) ds.length up has i hi p hpn hpe
    have e2 := up_high (fun p => ((ordSorted ds)[p]?.getD zD).f1) ds.length up has (ds.length - i - 1) i (by omega) p hpn hpe
    obtain rfl : p = i := by omega
    exact hpe
  · intro h k hk
    have := h k hk
    have hkl : k < (ordSorted ds).length := by omega
    rw [List.getElem?_eq_getElem hkl] at this
    exact ⟨(ordSorted ds)[k], hp.mem_iff.1 (List.getElem_mem hkl), this⟩
theorem ordS_eq (l0 : List SS) : ordS l0 = ordF l0 := by
  unfold ordS ordF
  congr 1
  funext d
  exact ord_eq d.f1
/-! no text twice -/
theorem keeps_sorted (L : List (List UInt8)) (hs : L.Pairwise (fun x y => x ≤ y)) : (Lib.compact L).length = L.length ↔ L.Nodup := by
  have h1 : (Lib.compact L).length = L.length ↔ ∀ j, j < L.length → Lib.keeps L.toArray j = true := by
    unfold Lib.compact Lib.compactUpTo
    rw [List.length_map]
    have := List.length_filter_eq_length_iff (p := Lib.keeps L.toArray) (l := List.range L.length)
    rw [List.length_range] at this
    rw [this]
    constructor
    · intro h j hj
      exact h j (List.mem_range.2 hj)
    · intro h j hj
      exact h j (List.mem_range.1 hj)
  rw [h1]
  have hg : ∀ j (hj : j < L.length), L.toArray[j]! = L[j] := fun j hj => by rw [getElem!_pos _ j (by simpa using hj)]; simp
  rw [List.pairwise_iff_getElem] at hs
  constructor
  · intro h
    refine List.pairwise_iff_getElem.2 (fun i j hi hj hij he => ?_)
    have hk := h j hj
    unfold Lib.keeps at hk
    rw [decide_eq_true_eq] at hk
    rcases hk with hk | hk
    · omega
    · rw [hg j hj, hg (j - 1) (by omega)] at hk
      apply hk
      rcases Nat.lt_or_ge i (j - 1) with h2 | h2
      · have a1 := hs i (j - 1) hi (by omega) h2
        have a2 := hs (j - 1) j (by omega) hj (by omega)
        rw [he] at a1
        exact List.le_antisymm a1 a2
      · have : i = j - 1 := by omega
        subst this
        exact he.symm
  · intro h j hj
    unfold Lib.keeps
    rw [decide_eq_true_eq]
    rcases Nat.eq_zero_or_pos j with h0 | h0
    · exact .inl h0
    · refine .inr ?_
      rw [hg j hj, hg (j - 1) (by omega)]
      have := (List.pairwise_iff_getElem.1 h) (j - 1) j (by omega) hj (by omega)
      exact fun e => this e.symm
theorem uniq_eq (l : List ByteArray) : decide (uniqLen l = l.length) = onceL l := by
  unfold uniqLen onceL
  rw [decide_eq_decide]
  have hperm : (sortedBytes l).Perm (bys l) := List.mergeSort_perm _ _
  have hs : (sortedBytes l).Pairwise (fun x y => x ≤ y) := by
    have := List.pairwise_mergeSort (le := fun x y : List UInt8 => decide (x ≤ y)) (fun a b c h1 h2 => by simp only [decide_eq_true_eq] at *; exact List.le_trans h1 h2) (fun a b => by simp only [Bool.or_eq_true, decide_eq_true_eq]; exact List.le_total a b) (bys l)
    exact this.imp (fun h => by simpa using h)
  rw [← hperm.nodup_iff, ← keeps_sorted _ hs, sortedBytes_length]
theorem once_eq (l0 : List SS) (l1 : List SE) : onceN l0 l1 = onceF l0 l1 := by
  unfold onceN onceF
  congr 1
  funext l
  exact (uniq_eq l).symm
theorem specIdl_f (l0 : List SS) (l1 : List SE) (hS : Small l0 l1) : Ev (fun k => spec_IdlCheck.f k l0 l1) (IC l0 l1) := by
  unfold IC
  obtain ⟨K, hK⟩ := formS_f l0 l1 hS
  cases hF : formedF l0 l1
  · rw [if_pos rfl]
    refine ⟨K, fun k hk => ?_⟩
    show spec_IdlCheck.f k l0 l1 = _
    unfold spec_IdlCheck.f
    have := hK k hk
    simp only at this
    rw [this, hF]
    rfl
  · rw [if_neg (by decide)]
    obtain ⟨L, hL⟩ := namesS_f l0 l1 hS
    rw [once_eq] at hL
    cases hO : onceF l0 l1
    · rw [if_pos rfl]
      refine ⟨K + L, fun k hk => ?_⟩
      show spec_IdlCheck.f k l0 l1 = _
      unfold spec_IdlCheck.f
      have h1 := hK k (by omega)
      have h2 := hL k (by omega)
      simp only at h1 h2
      rw [h1, hF, Option.bind_some, if_pos rfl, h2, hO]
      rfl
    · rw [if_neg (by decide)]
      have h4 := fun hz => chk_l4 l0 l1 hS hz l0.length 0 (by omega)
      have h2 := fun hz => chk_l2 l0 l1 hS _ (h4 hz) l0.length 0 (by omega)
      have h0 := chk_l0 l0 l1 hS _ h2 l0.length 0 (by omega) rfl
      simp only [List.drop_zero] at h0
      obtain ⟨M, hM⟩ := h0
      refine ⟨K + L + M, fun k hk => ?_⟩
      show spec_IdlCheck.f k l0 l1 = _
      unfold spec_IdlCheck.f
      have g1 := hK k (by omega)
      have g2 := hL k (by omega)
      have g3 := hM k (by omega)
      simp only at g1 g2 g3
      rw [g1, hF, Option.bind_some, if_pos rfl, g2, hO]
      have g3' : spec_IdlCheck.l0 k 0 l0 l1 = _ := g3
      simp only [Bool.not_true, Option.bind_some, Bool.false_eq_true, if_false]
      rw [g3', ordS_eq]
      unfold allD
      cases l0.all (fun d => d.f1.all (sizeOk l0 l1)) <;> cases ordF l0 <;> cases l0.all (fun d => d.f1.all (mayOk l0 l1)) <;> rfl
end Go.Proofs.YtjeipkfeihahdaaGreatDoor.Lem
end
