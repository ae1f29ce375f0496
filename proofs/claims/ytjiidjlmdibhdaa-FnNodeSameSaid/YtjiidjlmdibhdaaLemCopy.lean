/- The reference's copy of a node comes to an end, and the sameness of nodes goes both ways. -/
import Derived.Test.YtjiidjlmdibhdaaLemSame
import Derived.Test.YtjiidjlmdibhdaaPx8
namespace Go.Proofs.Ytjiidjlmdibhdaa.Lem
set_option linter.unusedVariables false
set_option linter.unusedSimpArgs false
open Go Go.RowKit Go.Proofs.Ytjiidjlmdibhdaa Go.Proofs.Ytjiidjlmdibhdaa.P Go.Proofs.YtjiidjlmdibhdaaW.PrintWords Go.Proofs.YtjiidjlmdibhdaaW.PrintLast Go.Proofs.YtjiidjlmdibhdaaW.PrintMore
mutual
/-- No row of it is long. -/
def smN : Nd → Prop
  | ⟨_, _, p, _, _, i⟩ => smL p ∧ smL i
def smL : List Nd → Prop
  | [] => True
  | x :: l => (x :: l).length ≤ 1000 ∧ smN x ∧ smL l
end
theorem smL_all : ∀ {l : List Nd}, smL l → l.length ≤ 1000 ∧ ∀ x ∈ l, smN x
  | [], _ => ⟨Nat.zero_le _, fun x hx => by cases hx⟩
  | y :: l, h => by
    simp only [smL] at h
    refine ⟨h.1, fun x hx => ?_⟩
    rcases List.mem_cons.mp hx with rfl | hx
    · exact h.2.1
    · exact (smL_all h.2.2).2 x hx
theorem smL_of : ∀ {l : List Nd}, l.length ≤ 1000 → (∀ x ∈ l, smN x) → smL l
  | [], _, _ => by simp [smL]
  | y :: l, h, hx => by
    simp only [smL]
    exact ⟨h, hx y List.mem_cons_self, smL_of (by simp at h; omega) (fun x hx' => hx x (List.mem_cons_of_mem _ hx'))⟩
theorem sm_parts {x : Nd} (h : smN x) : smL x.f2 ∧ smL x.f5 := by cases x; simpa only [smN] using h
mutual
theorem len_sm : ∀ (x : Nd), smN x → lenN x
  | ⟨k, d, p, s, c, i⟩, h => by
    simp only [smN] at h
    simp only [lenN]
    exact ⟨lenL_sm p h.1, lenL_sm i h.2⟩
theorem lenL_sm : ∀ (l : List Nd), smL l → lenL l
  | [], _ => by simp [lenL]
  | x :: l, h => by
    simp only [smL] at h
    simp only [lenL]
    exact ⟨by omega, len_sm x h.2.1, lenL_sm l h.2.2⟩
end
abbrev C8 (k : Nat) (x : Nd) := spec_l8Copy.f k x.f0 x.f1 x.f2 x.f3 x.f4 x.f5
/-- From some round on it answers something. -/
def Some8 (x : Nd) : Prop := ∃ K v, ∀ k, K ≤ k → C8 k x = some v
theorem copy_l1 (x : Nd) (H5 : ∀ z ∈ x.f5, Some8 z) (hb : x.f5.length ≤ 1000) (b0 : Int) (b1 : ByteArray) (b2 : List Nd) (b3 b4 : Int) : ∀ (n i : Nat), i + n = x.f5.length → ∀ acc : List Nd, acc.length ≤ i →
    ∃ K v, ∀ k, K ≤ k → spec_l8Copy.l1 k (i : Int) x.f0 x.f1 x.f2 x.f3 x.f4 x.f5 b0 b1 b2 b3 b4 acc = some v := by
  intro n
  induction n with
  | zero =>
    intro i hi acc ha
    refine ⟨1, (b0, b1, b2, b3, b4, acc), fun k hk => ?_⟩
    obtain ⟨k, rfl⟩ : ∃ m, k = m + 1 := ⟨k - 1, by omega⟩
    simp only [spec_l8Copy.l1]
    rw [if_neg (by omega)]
  | succ n ih =>
    intro i hi acc ha
    obtain ⟨K1, v1, h1⟩ := H5 (rd_T29 x.f5 (i : Int)) (by rw [rdN _ i (by omega)]; exact List.getElem_mem _)
    obtain ⟨K2, v2, h2⟩ := ih (i + 1) (by omega) (acc ++ [(⟨v1.1, v1.2.1, v1.2.2.1, v1.2.2.2.1, v1.2.2.2.2.1, v1.2.2.2.2.2⟩ : Nd)]) (by simp; omega)
    refine ⟨K1 + K2 + 1, v2, fun k hk => ?_⟩
    obtain ⟨k, rfl⟩ : ∃ m, k = m + 1 := ⟨k - 1, by omega⟩
    have e1 := h1 k (by omega)
    dsimp only [C8] at e1
    have e2 := h2 k (by omega)
    simp only [spec_l8Copy.l1]
    rw [if_pos (by omega), if_pos (by omega), e1, Option.bind_some, if_pos (by omega), step_len (n := x.f5.length) (by omega) (by omega)]
    exact e2
theorem copy_l0 (x : Nd) (H2 : ∀ z ∈ x.f2, Some8 z) (H5 : ∀ z ∈ x.f5, Some8 z) (hb : x.f2.length ≤ 1000) (hb5 : x.f5.length ≤ 1000) (b0 : Int) (b1 : ByteArray) (b3 b4 : Int) : ∀ (n i : Nat), i + n = x.f2.length → ∀ acc : List Nd, acc.length ≤ i →
    ∃ K v, ∀ k, K ≤ k → spec_l8Copy.l0 k (i : Int) x.f0 x.f1 x.f2 x.f3 x.f4 x.f5 b0 b1 acc b3 b4 = some v := by
  intro n
  induction n with
  | zero =>
    intro i hi acc ha
    obtain ⟨K, v, h⟩ := copy_l1 x H5 hb5 b0 b1 acc b3 b4 x.f5.length 0 (by omega) [] (by simp)
    refine ⟨K + 1, v, fun k hk => ?_⟩
    obtain ⟨k, rfl⟩ : ∃ m, k = m + 1 := ⟨k - 1, by omega⟩
    have e := h k (by omega)
    simp only [spec_l8Copy.l0]
    rw [if_neg (by omega)]
    exact e
  | succ n ih =>
    intro i hi acc ha
    obtain ⟨K1, v1, h1⟩ := H2 (rd_T29 x.f2 (i : Int)) (by rw [rdN _ i (by omega)]; exact List.getElem_mem _)
    obtain ⟨K2, v2, h2⟩ := ih (i + 1) (by omega) (acc ++ [(⟨v1.1, v1.2.1, v1.2.2.1, v1.2.2.2.1, v1.2.2.2.2.1, v1.2.2.2.2.2⟩ : Nd)]) (by simp; omega)
    refine ⟨K1 + K2 + 1, v2, fun k hk => ?_⟩
    obtain ⟨k, rfl⟩ : ∃ m, k = m + 1 := ⟨k - 1, by omega⟩
    have e1 := h1 k (by omega)
    dsimp only [C8] at e1
    have e2 := h2 k (by omega)
    simp only [spec_l8Copy.l0]
    rw [if_pos (by omega), if_pos (by omega), e1, Option.bind_some, if_pos (by omega), step_len (n := x.f2.length) (by omega) (by omega)]
    exact e2
theorem copy_ends (x : Nd) : smN x → Some8 x := by
  refine nd_all (F := fun x => smN x → Some8 x) (fun x h2 h5 hx => ?_) x
  obtain ⟨p2, p5⟩ := sm_parts hx
  obtain ⟨b2, m2⟩ := smL_all p2
  obtain ⟨b5, m5⟩ := smL_all p5
  obtain ⟨K, v, h⟩ := copy_l0 x (fun z hz => h2 z hz (m2 z hz)) (fun z hz => h5 z hz (m5 z hz)) b2 b5 x.f0 x.f1 x.f3 x.f4 x.f2.length 0 (by omega) [] (by simp)
  refine ⟨K + 1, v, fun k hk => ?_⟩
  obtain ⟨k, rfl⟩ : ∃ m, k = m + 1 := ⟨k - 1, by omega⟩
  have e := h k (by omega)
  show spec_l8Copy.f (k + 1) _ _ _ _ _ _ = _
  simp only [spec_l8Copy.f]
  exact e
mutual
theorem sameV_comm : ∀ (x y : Nd), sameV x y = sameV y x
  | ⟨k, d, p, s, c, i⟩, ⟨k', d', p', s', c', i'⟩ => by
    simp only [sameV, sameL_comm p p', sameL_comm i i']
    have e1 : (k == k') = (k' == k) := BEq.comm
    have e2 : decide (d.toList = d'.toList) = decide (d'.toList = d.toList) := decide_eq_decide.mpr eq_comm
    have e3 : (s == s') = (s' == s) := BEq.comm
    have e4 : (c == c') = (c' == c) := BEq.comm
    rw [e1, e2, e3, e4]
theorem sameL_comm : ∀ (l m : List Nd), sameL l m = sameL m l
  | [], [] => rfl
  | [], _ :: _ => by simp [sameL]
  | _ :: _, [] => by simp [sameL]
  | x :: l, y :: m => by simp only [sameL, sameV_comm x y, sameL_comm l m]
end
end Go.Proofs.Ytjiidjlmdibhdaa.Lem
