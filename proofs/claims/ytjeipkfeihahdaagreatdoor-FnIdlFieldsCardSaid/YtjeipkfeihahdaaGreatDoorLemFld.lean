/- The fields of a struct of a schema that is fine are ok; and how great their layout is. -/
import Derived.Test.YtjeipkfeihahdaaGreatDoorStubLayoutOf
import Derived.Test.YtjeipkfeihahdaaGreatDoorStubFlds
import Derived.Test.YtjeipkfeihahdaaGreatDoorStubIdlFields
namespace Go.Proofs.YtjeipkfeihahdaaGreatDoor
set_option linter.unusedVariables false
set_option linter.unusedSimpArgs false
open Go.RowKit Go.Proofs.YtjeipkfeihahdaaGreatDoor.P Go.Proofs.YtjeipkfeihahdaaGreatDoor.Lem Go.Proofs.YtjeipkfeihahdaaGreatDoorW.PrintWords Go.Proofs.YtjeipkfeihahdaaGreatDoorW.PrintLast Go.Proofs.YtjeipkfeihahdaaGreatDoorW.PrintMore
/-- The fields of a struct, by their numbers. -/
def listF (l0 : List SS) (l1 : List SE) (x : SS) : List SF := (ordSorted x.f1).map (fldF l0 l1)
theorem sizeOk_at {l0 : List SS} {l1 : List SE} (h : IC l0 l1 = 0) {x : SS} (hx : x ∈ l0) {d : SD} (hd : d ∈ x.f1) : 0 ≤ sizeF l0 l1 d.f2.f0 d.f2.f1 ∧ mayF l0 l1 d.f2.f0 d.f2.f1 d.f4 = true := by
  obtain ⟨_, _, h1, _, h2⟩ := ic_zero l0 l1 h
  unfold allD at h1 h2
  rw [List.all_eq_true] at h1 h2
  have h1 := h1 x hx
  have h2 := h2 x hx
  rw [List.all_eq_true] at h1 h2
  exact ⟨by simpa using h1 d hd, h2 d hd⟩
theorem list_eq {l0 : List SS} {l1 : List SE} (h : IC l0 l1 = 0) {x : SS} (hx : x ∈ l0) : (ordSorted x.f1).map (fldS l0 l1) = listF l0 l1 x := by
  unfold listF
  refine List.map_congr_left (fun d hd => ?_)
  have hd' := (ordSorted_perm x.f1).mem_iff.1 hd
  unfold fldS fldF
  rw [(of_eq l0 l1 d.f2.f0 d.f2.f1 (sizeOk_at h hx hd').1).1]
theorem top_apart {l0 : List SS} {l1 : List SE} (h : onceF l0 l1 = true) {b : ByteArray} {e : SE} (he : findE l1 b = some e) : findS l0 b = none := by
  cases hs : findS l0 b with
  | none => rfl
  | some d =>
    exfalso
    rw [← once_eq] at h
    unfold onceN at h
    rw [List.all_eq_true] at h
    have := h (topOf l0 l1) (by simp)
    unfold onceL bys topOf at this
    rw [decide_eq_true_eq, List.map_append] at this
    obtain ⟨hd, hdb⟩ := find_mem hs
    unfold findE at he
    have he1 := List.mem_of_find?_eq_some he
    have he2 : e.f0.toList = b.toList := by simpa using List.find?_some he
    have h3 := (List.nodup_append.1 this).2.2
    refine h3 _ (List.mem_map_of_mem (List.mem_map_of_mem hd)) _ (List.mem_map_of_mem (List.mem_map_of_mem he1)) ?_
    rw [← ByteArray.toList_eq, ← ByteArray.toList_eq, hdb, he2]
theorem fld_ok {l0 : List SS} {l1 : List SE} (hS : Small l0 l1) (h : IC l0 l1 = 0) {x : SS} (hx : x ∈ l0) {d : SD} (hd : d ∈ x.f1) : badField (fldF l0 l1 d) = false := by
  obtain ⟨h1, h2⟩ := sizeOk_at h hx hd
  obtain ⟨_, h3, h4⟩ := of_eq l0 l1 d.f2.f0 d.f2.f1 h1
  have hF : Fits d.f4 (sizeF l0 l1 d.f2.f0 d.f2.f1) := by
    unfold mayF at h2
    split at h2
    · rename_i e he hli
      have hs := top_apart (ic_zero l0 l1 h).2.1 he
      have hn := (hS.s1 e (List.mem_of_find?_eq_some he)).2.1
      have hz : sizeF l0 l1 d.f2.f0 d.f2.f1 = 3 := by
        rw [sizeF_eq, he, hs, hli]
        simp [sizeB]
      rw [hz]
      rw [decide_eq_true_eq] at h2
      refine .inr (.inr ⟨by decide, h2.1, ?_⟩)
      have : (2 : Int) ^ (bitsOf 3).toNat - 1 = 65535 := by decide
      rw [this]
      omega
    · simp only [Bool.and_eq_true, decide_eq_true_eq] at h2
      exact h2.1
  unfold badField fldF
  simp [h3, h4, hF]
theorem list_ok {l0 : List SS} {l1 : List SE} (hS : Small l0 l1) (h : IC l0 l1 = 0) {x : SS} (hx : x ∈ l0) : okF (listF l0 l1 x) = true := by
  have hl := (hS.s0 x hx).2.1
  unfold okF listF
  simp only [Bool.and_eq_true, decide_eq_true_eq, Bool.not_eq_true', List.any_eq_false, List.length_map, ordSorted_length, List.mem_map]
  refine ⟨by omega, ?_⟩
  rintro f ⟨d, hd, rfl⟩
  rw [fld_ok hS h hx ((ordSorted_perm x.f1).mem_iff.1 hd)]
  decide
theorem put_tag {kw k : Nat} {p : PS} (H : Inv kw k p) (size : Int) (ch : Bool) (h : 2 ≤ p.choices → 0 ≤ p.tag) : 2 ≤ (putP p size ch).2.choices → 0 ≤ (putP p size ch).2.tag := by
  have ht : 2 ≤ (tagP p).choices → 0 ≤ (tagP p).tag := by
    unfold tagP
    split
    · intro _
      have := (H.find 4 (by decide)).2.1
      show 0 ≤ (findP _ _).1 / 16
      exact Int.ediv_nonneg this (by decide)
    · rename_i hne
      intro h2
      have h2' : 2 ≤ p.choices + 1 := h2
      exact h (by omega)
  cases ch
  · unfold putP
    rw [if_neg (by decide)]
    split <;> exact h
  · have hc : ∀ q : PS, (pointP q).2.choices = q.choices ∧ (pointP q).2.tag = q.tag := fun q => by unfold pointP; split <;> exact ⟨rfl, rfl⟩
    have hr : ∀ (q : PS) (s : Nat), (roomP q s).2.choices = q.choices ∧ (roomP q s).2.tag = q.tag := fun q s => by unfold roomP; split <;> exact ⟨rfl, rfl⟩
    have e : (putP p size true).2.choices = (tagP p).choices ∧ (putP p size true).2.tag = (tagP p).tag := by
      unfold putP
      rw [if_pos rfl]
      split
      · unfold choiceP
        rename_i h6
        rw [if_pos h6]
        exact hc _
      · unfold choiceP
        rename_i h6
        rw [if_neg h6]
        exact hr _ _
    rw [e.1, e.2]
    exact ht
theorem lay_tag : ∀ (l : List (Int × Bool)) {kw k : Nat} {p : PS}, Inv kw k p → (2 ≤ p.choices → 0 ≤ p.tag) → 2 ≤ (layP p l).2.choices → 0 ≤ (layP p l).2.tag
  | [], _, _, _, _, h => h
  | f :: l, _, _, _, H, h => lay_tag l (H.put f.1 f.2).1 (put_tag H f.1 f.2 h)
/-- How many of some fields are pointers. -/
def nP (l : List SF) : Int := nPoint (l.map fieldP)
theorem lay_great (l : List SF) : (layS l).2.ptrs ≤ nP l ∧ (layS l).2.words ≤ (l.length : Int) - nP l + (if 0 ≤ (layS l).2.tag then 1 else 0) := by
  obtain ⟨⟨t, ht, h1⟩, h2⟩ := lay_words (l.map fieldP) PS.new (by decide)
  have hc := lay_choices (l.map fieldP) PS.new
  have hg := lay_tag (l.map fieldP) Inv.new (fun h => absurd h (by decide))
  rw [List.length_map] at h1
  have e0 : PS.new.words = 0 := rfl
  have e1 : PS.new.ptrs = 0 := rfl
  have e2 : PS.new.choices = 0 := rfl
  rw [e0] at h1
  rw [e1] at h2
  rw [e2] at hc ht
  unfold layS nP
  refine ⟨by omega, ?_⟩
  rcases ht with rfl | ⟨rfl, _, h3⟩
  · split <;> omega
  · rw [if_pos (hg (by omega))]
    omega
theorem nPoint_append : ∀ (a b : List (Int × Bool)), nPoint (a ++ b) = nPoint a + nPoint b
  | [], b => by show nPoint b = 0 + nPoint b; omega
  | f :: a, b => by
    show nPoint (f :: (a ++ b)) = _
    rw [nPoint_cons, nPoint_cons, nPoint_append a b]
    omega
theorem nP_take (l : List SF) (i : Nat) (hi : i < l.length) : nP (l.take (i + 1)) = nP (l.take i) + (if l[i].f0 = 6 then 1 else 0) := by
  unfold nP
  rw [List.take_succ_eq_append_getElem hi, List.map_append, nPoint_append]
  have e : nPoint (List.map fieldP [l[i]]) = (if l[i].f0 = 6 then 1 else 0) := by
    show (if (fieldP l[i]).1 = 6 then 1 else 0) + 0 = _
    rw [Int.add_zero]
    rfl
  rw [e]
theorem nP_range : ∀ (l : List SF), 0 ≤ nP l ∧ nP l ≤ (l.length : Int)
  | [] => ⟨by decide, by decide⟩
  | f :: l => by
    have ih := nP_range l
    have e : nP (f :: l) = (if f.f0 = 6 then 1 else 0) + nP l := rfl
    rw [e, List.length_cons]
    split <;> omega
end Go.Proofs.YtjeipkfeihahdaaGreatDoor
