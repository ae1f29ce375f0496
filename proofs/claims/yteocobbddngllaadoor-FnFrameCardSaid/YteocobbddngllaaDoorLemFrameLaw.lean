/- The laws of frames, in plain terms: what was put is read, and what is read was put. -/
import Derived.Test.YteocobbddngllaaDoorLemFrameGet
namespace Go.Proofs.YteocobbddngllaaDoor.Lem
set_option linter.unusedVariables false
set_option linter.unusedSimpArgs false
open Go Go.RowKit Go.Proofs.YteocobbddngllaaDoor.P Go.Proofs.YteocobbddngllaaDoorW.PrintWords Go.Proofs.YteocobbddngllaaDoorW.PrintLast Go.Proofs.YteocobbddngllaaDoorW.PrintMore
structure OkL (l : List (List UInt8)) : Prop where
  one : 1 ≤ l.length
  six : l.length ≤ 6
  words : ∀ s ∈ l, s.length % 8 = 0
  all : l.flatten.length ≤ 1600
theorem mem_len {l : List (List UInt8)} {s : List UInt8} (h : s ∈ l) : s.length ≤ l.flatten.length := by
  induction l with
  | nil => cases h
  | cons a l ih =>
    rw [List.flatten_cons, List.length_append]
    rcases List.mem_cons.1 h with rfl | h
    · omega
    · have := ih h; omega
theorem frL_length (l : List (List UInt8)) : (frL l).length = hd8 l.length + l.flatten.length := by
  unfold frL
  have := padL_length l.length
  rw [List.length_append, List.length_append, List.length_append, le4L_length, szL_length]; omega
theorem all_zeros (n : Nat) : (zeros n).all (fun c => c == 0) = true := by unfold zeros; simp
theorem padL_all (n : Nat) : (padL n).all (fun c => c == 0) = true := by
  unfold padL
  split
  · rfl
  · exact all_zeros 4
/-- What was put into a frame is read from it, whatever stands behind. -/
theorem frameG_put (l : List (List UInt8)) (h : OkL l) (x : List UInt8) : frameG (frL l ++ x) = (l.map B, ((frL l).length : Int)) := by
  have h1 := h.one
  have h6 := h.six
  have hall := h.all
  have hsz : ∀ s ∈ l, s.length < 10000 := fun s hs => by have := mem_len hs; omega
  have hle : ((l.length : Int) - 1) = ((l.length - 1 : Nat) : Int) := by omega
  have hlen := frL_length l
  have hpad := padL_length l.length
  have ht : frL l ++ x = le4L ((l.length - 1 : Nat) : Int) ++ (szL l ++ (padL l.length ++ (l.flatten ++ x))) := by
    unfold frL
    rw [hle]; simp only [List.append_assoc]
  have hn : n4 (frL l ++ x) = l.length - 1 := by rw [ht, n4_put _ _ (by omega)]
  have hd4 : (frL l ++ x).drop 4 = szL l ++ (padL l.length ++ (l.flatten ++ x)) := by
    have h4 := le4L_length ((l.length - 1 : Nat) : Int)
    rw [ht, ← h4, List.drop_left]
  have hs : szs l.length ((frL l ++ x).drop 4) = l.map fun s => s.length / 8 := by rw [hd4, szs_put l _ hsz]
  have hsum := sum_put l h.words
  have hP : (le4L ((l.length - 1 : Nat) : Int) ++ szL l).length = 4 * (l.length + 1) := by rw [List.length_append, le4L_length, szL_length]; omega
  have hPQ : (le4L ((l.length - 1 : Nat) : Int) ++ szL l ++ padL l.length).length = hd8 l.length := by rw [List.length_append, hP]; omega
  have ht2 : frL l ++ x = (le4L ((l.length - 1 : Nat) : Int) ++ szL l ++ padL l.length) ++ (l.flatten ++ x) := by rw [ht]; simp only [List.append_assoc]
  have hpd : ((frL l ++ x).take (hd8 l.length)).drop (4 * (l.length + 1)) = padL l.length := by
    rw [ht2, ← hPQ, List.take_left, ← hP, List.drop_left]
  have hdd : (frL l ++ x).drop (hd8 l.length) = l.flatten ++ x := by rw [ht2, ← hPQ, List.drop_left]
  have e1 : l.length - 1 + 1 = l.length := by omega
  have e2 : l.length - 1 + 2 = l.length + 1 := by omega
  have htl : (frL l ++ x).length = (frL l).length + x.length := List.length_append
  have hh : 8 ≤ hd8 l.length := by unfold hd8; omega
  unfold frameG
  rw [hn, e1, e2, hs, hpd, hdd, padL_all, cut_put l x h.words]
  rw [if_neg (by omega), if_neg (by omega), if_neg (by omega), if_neg (by rintro (h | h); omega; cases h), if_neg (by omega)]
  congr 1; omega
theorem szL_cut : ∀ (zs : List Nat) (r : List UInt8), 8 * sumN zs ≤ r.length → szL (cutL zs r) = (zs.map fun (z : Nat) => le4L (z : Int)).flatten ∧ (cutL zs r).flatten = r.take (8 * sumN zs) ∧ ∀ s ∈ cutL zs r, s.length % 8 = 0 := by
  intro zs
  induction zs with
  | nil => intro r _; exact ⟨rfl, rfl, fun s hs => by cases hs⟩
  | cons z zs ih =>
    intro r h
    have hc : sumN (z :: zs) = z + sumN zs := rfl
    rw [hc] at h ⊢
    obtain ⟨a, b, c⟩ := ih (r.drop (8 * z)) (by rw [List.length_drop]; omega)
    have hl : (r.take (8 * z)).length = 8 * z := by rw [List.length_take]; omega
    have e8 : 8 * (z + sumN zs) = 8 * z + 8 * sumN zs := by omega
    refine ⟨?_, ?_, ?_⟩
    · show le4L (((r.take (8 * z)).length / 8 : Nat) : Int) ++ szL (cutL zs (r.drop (8 * z))) = _
      have e : 8 * z / 8 = z := by omega
      rw [a, hl, e]; rfl
    · show r.take (8 * z) ++ (cutL zs (r.drop (8 * z))).flatten = _
      rw [b, e8, List.take_add]
    · intro s hs
      rcases List.mem_cons.1 hs with rfl | hs
      · rw [hl]; omega
      · exact c s hs
theorem szs_flat : ∀ (n : Nat) (u : List UInt8), 4 * n ≤ u.length → ((szs n u).map fun (z : Nat) => le4L (z : Int)).flatten = u.take (4 * n) := by
  intro n
  induction n with
  | zero => intro u _; rfl
  | succ n ih =>
    intro u h
    have e4 : 4 * (n + 1) = 4 + 4 * n := by omega
    simp only [szs, List.map_cons, List.flatten_cons]
    rw [le4_n4 u (by omega), ih (u.drop 4) (by rw [List.length_drop]; omega), e4, List.take_add]
theorem all_zero_eq (u : List UInt8) (h : u.all (fun c => c == 0) = true) : u = zeros u.length := by
  unfold zeros
  rw [List.eq_replicate_iff]
  refine ⟨rfl, fun b hb => ?_⟩
  rw [List.all_eq_true] at h
  exact beq_iff_eq.1 (h b hb)
/-- What was read was put. -/
theorem frameG_back (t : List UInt8) (y : List ByteArray) (n : Int) (h : frameG t = (y, n)) (hn : 1 ≤ n) :
    ∃ yl : List (List UInt8), y = yl.map B ∧ OkL yl ∧ n = ((frL yl).length : Int) ∧ (frL yl).length ≤ t.length ∧ frL yl = t.take (frL yl).length := by
  unfold frameG at h
  by_cases c1 : t.length < 4
  · rw [if_pos c1] at h; cases h; omega
  · rw [if_neg c1] at h
    by_cases c2 : 6 < n4 t + 1
    · rw [if_pos c2] at h; cases h; omega
    · rw [if_neg c2] at h
      by_cases c3 : t.length < hd8 (n4 t + 1)
      · rw [if_pos c3] at h; cases h; omega
      · rw [if_neg c3] at h
        have hz4 : 4 * (n4 t + 1) + 4 ≤ hd8 (n4 t + 1) ∧ hd8 (n4 t + 1) ≤ 4 * (n4 t + 1) + 8 := by unfold hd8; omega
        by_cases c4 : 200 < sumN (szs (n4 t + 1) (t.drop 4)) ∨ ((t.take (hd8 (n4 t + 1))).drop (4 * (n4 t + 2))).all (fun c => c == 0) = false
        · rw [if_pos c4] at h; cases h; omega
        · rw [if_neg c4] at h
          by_cases c5 : t.length < hd8 (n4 t + 1) + 8 * sumN (szs (n4 t + 1) (t.drop 4))
          · rw [if_pos c5] at h; cases h; omega
          · rw [if_neg c5] at h
            have c4a : sumN (szs (n4 t + 1) (t.drop 4)) ≤ 200 := by
              rcases Nat.lt_or_ge 200 (sumN (szs (n4 t + 1) (t.drop 4))) with h | h
              · exact absurd (Or.inl h) c4
              · exact h
            have c4b : ((t.take (hd8 (n4 t + 1))).drop (4 * (n4 t + 2))).all (fun c => c == 0) = true := by
              cases hh : ((t.take (hd8 (n4 t + 1))).drop (4 * (n4 t + 2))).all (fun c => c == 0) with
              | true => rfl
              | false => exact absurd (Or.inr hh) c4
            clear c4
            have hlz := szs_length (n4 t + 1) (t.drop 4)
            have hflat := szs_flat (n4 t + 1) (t.drop 4) (by rw [List.length_drop]; omega)
            obtain ⟨q1, q2, q3⟩ := szL_cut (szs (n4 t + 1) (t.drop 4)) (t.drop (hd8 (n4 t + 1))) (by rw [List.length_drop]; omega)
            have hyl := cutL_length (szs (n4 t + 1) (t.drop 4)) (t.drop (hd8 (n4 t + 1)))
            rw [hlz] at hyl
            rw [hflat] at q1
            have hpz : (t.take (hd8 (n4 t + 1))).drop (4 * (n4 t + 2)) = padL (n4 t + 1) := by
              have hl : ((t.take (hd8 (n4 t + 1))).drop (4 * (n4 t + 2))).length = hd8 (n4 t + 1) - 4 * (n4 t + 2) := by rw [List.length_drop, List.length_take]; omega
              have hp := padL_length (n4 t + 1)
              have hq := all_zero_eq _ c4b
              have hr : padL (n4 t + 1) = zeros (padL (n4 t + 1)).length := all_zero_eq _ (padL_all _)
              rw [hq, hr, hl]
              congr 1; omega
            have hfl : (cutL (szs (n4 t + 1) (t.drop 4)) (t.drop (hd8 (n4 t + 1)))).flatten.length = 8 * sumN (szs (n4 t + 1) (t.drop 4)) := by rw [q2, List.length_take, List.length_drop]; omega
            have hfr : frL (cutL (szs (n4 t + 1) (t.drop 4)) (t.drop (hd8 (n4 t + 1)))) = t.take (hd8 (n4 t + 1) + 8 * sumN (szs (n4 t + 1) (t.drop 4))) := by
              unfold frL
              rw [hyl, q1, q2, ← hpz]
              have e1 : ((n4 t + 1 : Nat) : Int) - 1 = (n4 t : Int) := by omega
              rw [e1, le4_n4 t (by omega)]
              have e2 : t.take 4 ++ (t.drop 4).take (4 * (n4 t + 1)) = t.take (4 * (n4 t + 2)) := by
                rw [← List.take_add]; congr 1; omega
              have e3 : t.take (4 * (n4 t + 2)) ++ (t.take (hd8 (n4 t + 1))).drop (4 * (n4 t + 2)) = t.take (hd8 (n4 t + 1)) := by
                have : t.take (4 * (n4 t + 2)) = (t.take (hd8 (n4 t + 1))).take (4 * (n4 t + 2)) := by rw [List.take_take, Nat.min_eq_left (by omega)]
                rw [this, List.take_append_drop]
              rw [e2, e3, List.take_add]
            have hfrl : (frL (cutL (szs (n4 t + 1) (t.drop 4)) (t.drop (hd8 (n4 t + 1))))).length = hd8 (n4 t + 1) + 8 * sumN (szs (n4 t + 1) (t.drop 4)) := by rw [frL_length, hyl, hfl]
            simp only [Prod.mk.injEq] at h
            refine ⟨_, h.1.symm, ⟨by rw [hyl]; omega, by rw [hyl]; omega, q3, by rw [hfl]; omega⟩, by rw [hfrl]; exact h.2.symm, by rw [hfrl]; omega, by rw [hfrl]; exact hfr⟩
theorem n4_take (t : List UInt8) (p : Nat) (h : 4 ≤ p) : n4 (t.take p) = n4 t := by
  have : acc (B (t.take p)) 0 4 0 = acc (B t) 0 4 0 := by
    refine acc_same _ _ _ _ 4 0 (fun j hj => ?_)
    have e2 : (0 : Int) + (j : Int) = ((j : Nat) : Int) := by omega
    rw [e2, B_bt, B_bt, List.getD_eq_getElem?_getD, List.getD_eq_getElem?_getD, List.getElem?_take, if_pos (by omega)]
  unfold n4; rw [this]
theorem szs_take : ∀ (n : Nat) (t : List UInt8) (p : Nat), 4 * n ≤ p → szs n (t.take p) = szs n t := by
  intro n
  induction n with
  | zero => intro t p _; rfl
  | succ n ih =>
    intro t p h
    simp only [szs]
    rw [n4_take t p (by omega), List.drop_take, ih (t.drop 4) (p - 4) (by omega)]
/-- A frame that breaks off is not whole yet. -/
theorem frameG_part (l : List (List UInt8)) (h : OkL l) (p : Nat) (hp : p < (frL l).length) : (frameG ((frL l).take p)).2 = 0 := by
  have h1 := h.one
  have h6 := h.six
  have hg := frameG_put l h []
  rw [List.append_nil] at hg
  have hlen := frL_length l
  have hle : ((l.length : Int) - 1) = ((l.length - 1 : Nat) : Int) := by omega
  have hsz : ∀ s ∈ l, s.length < 10000 := fun s hs => by have := mem_len hs; have := h.all; omega
  have hn : n4 (frL l) = l.length - 1 := by
    unfold frL
    rw [hle, List.append_assoc, List.append_assoc, n4_put _ _ (by omega)]
  have hd4 : (frL l).drop 4 = szL l ++ (padL l.length ++ l.flatten) := by
    unfold frL
    have h4 := le4L_length ((l.length : Int) - 1)
    rw [List.append_assoc, List.append_assoc, ← h4, List.drop_left]
  have hs : szs l.length ((frL l).drop 4) = l.map fun s => s.length / 8 := by rw [hd4, szs_put l _ hsz]
  have hsum := sum_put l h.words
  have hpl : ((frL l).take p).length = p := by rw [List.length_take]; omega
  have e1 : l.length - 1 + 1 = l.length := by omega
  have e2 : l.length - 1 + 2 = l.length + 1 := by omega
  have hh : 4 * l.length + 4 ≤ hd8 l.length := by unfold hd8; omega
  have hpad := padL_length l.length
  unfold frameG
  rw [hpl]
  by_cases c1 : p < 4
  · rw [if_pos c1]
  · rw [if_neg c1, n4_take _ p (by omega), hn, e1, e2, if_neg (by omega)]
    by_cases c3 : p < hd8 l.length
    · rw [if_pos c3]
    · have hz : szs l.length (((frL l).take p).drop 4) = l.map fun s => s.length / 8 := by rw [List.drop_take, szs_take _ _ _ (by omega), hs]
      have htt : ((frL l).take p).take (hd8 l.length) = (frL l).take (hd8 l.length) := by rw [List.take_take, Nat.min_eq_left (by omega)]
      have hP : (le4L ((l.length : Int) - 1) ++ szL l).length = 4 * (l.length + 1) := by rw [List.length_append, le4L_length, szL_length]; omega
      have hPQ : (le4L ((l.length : Int) - 1) ++ szL l ++ padL l.length).length = hd8 l.length := by rw [List.length_append, hP]; omega
      have hpd : ((frL l).take (hd8 l.length)).drop (4 * (l.length + 1)) = padL l.length := by
        unfold frL
        rw [← hPQ, List.take_left, ← hP, List.drop_left]
      rw [if_neg c3, hz, htt, hpd, padL_all, if_neg (by rintro (h' | h'); have := h.all; omega; cases h'), if_pos (by omega)]
end Go.Proofs.YteocobbddngllaaDoor.Lem
