/- The program's put of a field, walked. -/
import Derived.Test.YtjjcepnadjociaaDoorStubChoice
namespace Go.Proofs.YtjjcepnadjociaaDoor
set_option linter.unusedVariables false
set_option linter.unusedSimpArgs false
open Go.RowKit Go.Maps Go.Proofs.YtjjcepnadjociaaDoor.Lem Go.Proofs.YtjjcepnadjociaaDoorW.PrintWords Go.Proofs.YtjjcepnadjociaaDoorW.PrintLast Go.Proofs.YtjjcepnadjociaaDoorW.PrintMore
theorem KeptT.set_fresh {w w1 : World} (h : KeptT w w1) {g : Nat} (hg : w.heap.size ≤ g) (j : Nat) (u : Value) : KeptT w (w1.setCell ⟨g, j, none⟩ u) :=
  ⟨by simpa using h.size, fun k cs t fr e h1 h2 => by
    have hk := (Array.getElem?_eq_some_iff.mp e).1
    exact (Below.heap_setCell w1 _ _ k (show k ≠ g by omega)).trans (h.same k cs t fr e h1 h2)⟩
theorem IsP.set_other {w0 w : World} {pb mb n : Nat} {p : PS} (H : IsP w0 w pb mb n p) {g t : Nat} {cs : Array Value} (hb : w.heap[g]? = some (.cells cs t (0, 0))) (h1 : t ≠ 76) (h2 : t ≠ 85) (h0 : w0.heap.size ≤ g) (j : Nat) (u : Value) : IsP w0 (w.setCell ⟨g, j, none⟩ u) pb mb n p := by
  obtain ⟨rv, hP, hR⟩ := H.out
  have hp : pb ≠ g := fun e => by
    subst e
    rw [hP.row] at hb
    injection hb with hb
    injection hb with _ e2 _
    exact h1 e2.symm
  obtain ⟨D, ho, hm⟩ := hP.map
  have hmb : mb ≠ g := fun e => by
    subst e
    obtain ⟨es, clock, hb2, _⟩ := ho
    rw [hb2] at hb
    cases hb
  refine ⟨rv, ⟨(Below.heap_setCell w _ _ pb hp).trans hP.row, hP.old, ⟨D, ho.setCell hmb _, hm⟩, below_set hP.below h0⟩, Kd.R_set hR hb (fun q hq => ?_) j u⟩
  have : q = 85 := by
    rcases List.mem_cons.mp hq with h | h
    · exact h
    · simp [kRoom, Kd.pair, Kd.int, Kd.scalar] at h
  rw [this]
  exact fun e => h2 e.symm
theorem small_choice {kw k : Nat} {p : PS} (H : Inv kw k p) (size : Int) (h6 : size ≠ 6) (hk : kw ≤ 40) : (choiceP p size).1 ≤ 100000 := by
  obtain ⟨a, b, c⟩ := H.choice size
  have hw := a.words
  have hp := p2pos (scl size)
  have := (c h6).2
  omega
set_option maxHeartbeats 4000000 in
set_option maxRecDepth 100000 in
theorem put_calls (w0 w : World) (pb mb n kw k : Nat) (p : PS) (size : Int) (ch : Bool) (els : Int) (hs : 1 ≤ size ∧ size ≤ 6) (hn : n ≤ 800) (hi : Inv kw k p) (hk : kw ≤ 30 ∧ k ≤ 15) (hSB : SBw w0) (H : IsP w0 w pb mb n p) :
    Calls Tryd.prog 52 #[.pointer (some ⟨pb, 0, none⟩), .agg #[.int .i64 size, .bool ch, .int .i64 els]] w fun e w' => e = .returned (.agg #[.int .i64 (putP p size ch).1]) ∧ IsP w0 w' pb mb (n + 20) (putP p size ch).2 ∧ KeptT w w' := by
  obtain ⟨W2, hW2⟩ : ∃ W2, W2 = (w.alloc (.cells #[.int .i64 size, .bool ch, .int .i64 els] 27)).alloc (.cells #[.int .i64 0] 34) := ⟨_, rfl⟩
  have hB2 : Below w.heap.size w W2 := by rw [hW2]; exact below_alloc (below_alloc (Below.refl _ _) _) _
  have HI2 := H.below_ hB2
  have b1 : W2.heap[w.heap.size]? = some (.cells #[.int .i64 size, .bool ch, .int .i64 els] 27 (0, 0)) := by
    rw [hW2]
    rw [Below.heap_alloc _ _ _ (by simp)]
    simpa using heap_alloc_new w _
  have b2 : W2.heap[w.heap.size + 1]? = some (.cells #[.int .i64 0] 34 (0, 0)) := by
    rw [hW2]
    have := heap_alloc_new (w.alloc (.cells #[.int .i64 size, .bool ch, .int .i64 els] 27)) (.cells #[.int .i64 0] 34)
    simpa using this
  have hg : size ≠ 6 → W2.cell? ⟨0, size.toNat, none⟩ = some (.int .i64 (2 ^ scl size)) := fun h6 => by
    rw [← sizeTab_scl size hs.1 (by omega)]
    exact (hSB.mv (w1 := W2) HI2.low).at_ size (by omega) (by omega)
  have hs0 : 0 ≤ size := by omega
  have hs7 : size < 7 := by omega
  have HW2 := Aside0.mk hW2
  have B0 := Aside0.mk H.low.size
  have hput := hi.put size ch
  have HN := Aside0.mk hn
  have HK := Aside0.mk hk
  have HI := Aside0.mk hi
  have HS := Aside0.mk hs
  have HSB := Aside0.mk hSB
  have A1 := Aside0.mk HI2
  have A2 := Aside0.mk hB2
  have B1 := Aside0.mk b1
  have B2 := Aside0.mk b2
  have hsize0 : W2.heap.size = w.heap.size + 2 := by rw [hW2]; simp
  have HZ := Aside0.mk hsize0
  by_cases h6 : size = 6
  · have h6b : (size == 6) = true := beq_iff_eq.mpr h6
    have h6c := Aside0.mk h6
    clear h6 hg
    cases ch with
    | true =>
      have hc := choice_calls w0 W2 pb mb n kw k p size hs hn hi hk hSB HI2
      have A3 := Aside0.mk (show putP p size true = choiceP p size by unfold putP; rw [if_pos rfl, if_pos h6c.out])
      clear hW2 hB2 HI2 b1 b2 hput hn hk hi hs hSB H hsize0
      rw [HW2.out] at hc
      generalize choiceP p size = R at *
      obtain ⟨r, q⟩ := R
      go_enter Tryd.func52, Tryd.ntmps52
      go_wp2_with (go_at_call 56; refine hc.mono ?_; rintro e w1 ⟨rfl, hI1, hK1⟩; rw [← HW2.out] at hK1; have b1 := hK1.same _ _ _ _ B1.out (by decide) (by decide); have b2 := hK1.same _ _ _ _ B2.out (by decide) (by decide); have c1 : w1.cell? ⟨w.heap.size, 0, none⟩ = some (.int .i64 size) := (blk_cell b1 0).trans rfl; have c2 : w1.cell? ⟨w.heap.size + 1, 0, none⟩ = some (.int .i64 0) := (blk_cell b2 0).trans rfl; have f2 : w1.frozen? ⟨w.heap.size + 1, 0, none⟩ = false := blk_frozen b2 0; have A4 := Aside0.mk hI1; have A5 := Aside0.mk hK1; have A6 := Aside0.mk b2; clear hI1 hK1 b1 b2)
      refine bodyPost_ret (results_cell_row rfl _ _ (w.heap.size + 1) 34 #[.int .i64 (r)] (0, 0) _ rfl (blk_put (cs := #[.int .i64 0]) A6.out 0 _ rfl) Tryd.underlying34 rfl (by kernel_rfl)) rfl ?_
      rw [A3.out]
      exact ⟨rfl, A4.out.set_other A6.out (by decide) (by decide) (by have := B0.out; omega) 0 _, (KeptT.trans (KeptT.of_below A2.out) A5.out).set_fresh (by omega) 0 _⟩
    | false =>
      obtain ⟨rv, hv⟩ := HI2.open_
      have hcells : W2.cell? ⟨pb, 1, none⟩ = some (.int .i64 p.ptrs) := (blk_cell hv.plan.row 1).trans rfl
      have hfr : W2.frozen? ⟨pb, 1, none⟩ = false := blk_frozen hv.plan.row 1
      have A3 := Aside0.mk (show putP p size false = (p.ptrs, { p with ptrs := p.ptrs + 1 }) by unfold putP; rw [if_neg (by decide), if_pos h6c.out])
      have hw : wrap64 (p.ptrs + 1) = p.ptrs + 1 := by
        have := hi.ptrs
        exact w64 (by omega) (by omega)
      have A4 := Aside0.mk ((HI2.set_ 1 (.int .i64 (p.ptrs + 1)) (q := { p with ptrs := p.ptrs + 1 }) rfl rfl (fun rv => rfl)))
      have c1 : W2.cell? ⟨w.heap.size, 0, none⟩ = some (.int .i64 size) := (blk_cell b1 0).trans rfl
      have c2 : W2.cell? ⟨w.heap.size + 1, 0, none⟩ = some (.int .i64 0) := (blk_cell b2 0).trans rfl
      have f2 : W2.frozen? ⟨w.heap.size + 1, 0, none⟩ = false := blk_frozen b2 0
      have hne : pb ≠ w.heap.size := fun e => by
        have e1 := hv.plan.row
        rw [e, b1] at e1
        injection e1 with e1
        injection e1 with _ e2 _
        exact absurd e2 (by decide)
      have hne2 : pb ≠ w.heap.size + 1 := fun e => by
        have e1 := hv.plan.row
        rw [e, b2] at e1
        injection e1 with e1
        injection e1 with _ e2 _
        exact absurd e2 (by decide)
      have A6 := Aside0.mk (blk_far b2 (p := ⟨pb, 1, none⟩) (fun e => hne2 e.symm) (.int .i64 (p.ptrs + 1)))
      rw [hW2] at hcells hfr c1 c2 f2
      clear hW2 hB2 HI2 b1 b2 hput hn hk hi hs hSB H hsize0 hv
      go_enter Tryd.func52, Tryd.ntmps52
      go_wp2
      rw [← HW2.out]
      refine bodyPost_ret (results_cell_row rfl _ _ (w.heap.size + 1) 34 #[.int .i64 p.ptrs] (0, 0) _ rfl (blk_put (cs := #[.int .i64 0]) A6.out 0 _ rfl) Tryd.underlying34 rfl (by kernel_rfl)) rfl ?_
      rw [A3.out]
      exact ⟨rfl, (A4.out.1.set_other A6.out (by decide) (by decide) (by have := B0.out; omega) 0 _).mono (by omega), (KeptT.trans (KeptT.of_below A2.out) A4.out.2).set_fresh (by omega) 0 _⟩
  · have h6b : (size == 6) = false := beq_eq_false_iff_ne.mpr h6
    have h6c := Aside0.mk h6
    replace hg := hg h6
    obtain ⟨z, hz⟩ : ∃ z : Int, z = 2 ^ scl size := ⟨_, rfl⟩
    have HZZ := Aside0.mk hz
    have hzp : 1 ≤ z := by rw [hz]; exact p2pos _
    have hz0 : ¬ z = 0 := by omega
    have hz1 : (z == 0) = false := beq_eq_false_iff_ne.mpr hz0
    have hz64 : z ≤ 64 := by
      rw [hz]
      have := p2mono (scl_le size)
      exact this
    rw [← hz] at hg
    clear hz h6
    cases ch with
    | true =>
      have hc := choice_calls w0 W2 pb mb n kw k p size hs hn hi hk hSB HI2
      have A3 := Aside0.mk (show putP p size true = ((choiceP p size).1 / 2 ^ scl size, (choiceP p size).2) by unfold putP; rw [if_pos rfl, if_neg h6c.out])
      have hr0 := (hi.choice size).2.1
      have hr1 := small_choice hi size h6c.out (by omega)
      rw [← HZZ.out] at A3
      generalize choiceP p size = R at *
      obtain ⟨r, q⟩ := R
      have hd : wrap64 (r.tdiv z) = r / z := by
        have h0 : (0 : Int) ≤ r := hr0
        have h1 : r ≤ 100000 := hr1
        rw [Int.tdiv_eq_ediv_of_nonneg h0]
        have h2 := Int.ediv_nonneg h0 (show 0 ≤ z by omega)
        have h3 := Int.ediv_le_self z h0
        exact w64 (by omega) (by omega)
      rw [hW2] at hg
      clear hW2 hB2 HI2 b1 b2 hput hn hk hi hs hSB H hsize0 hr0 hr1 hzp hz64
      rw [HW2.out] at hc
      go_enter Tryd.func52, Tryd.ntmps52
      go_wp2_with (go_at_call 56; refine hc.mono ?_; rintro e w1 ⟨rfl, hI1, hK1⟩; rw [← HW2.out] at hK1; have b1 := hK1.same _ _ _ _ B1.out (by decide) (by decide); have b2 := hK1.same _ _ _ _ B2.out (by decide) (by decide); have c1 : w1.cell? ⟨w.heap.size, 0, none⟩ = some (.int .i64 size) := (blk_cell b1 0).trans rfl; have c2 : w1.cell? ⟨w.heap.size + 1, 0, none⟩ = some (.int .i64 0) := (blk_cell b2 0).trans rfl; have f2 : w1.frozen? ⟨w.heap.size + 1, 0, none⟩ = false := blk_frozen b2 0; have A4 := Aside0.mk hI1; have A5 := Aside0.mk hK1; have A6 := Aside0.mk b2; have hg1 : w1.cell? ⟨0, size.toNat, none⟩ = some (.int .i64 z) := (by rw [HZZ.out, ← sizeTab_scl size HS.out.1 (by have := HS.out; have := h6c.out; omega)]; exact (HSB.out.mv (w1 := w1) hI1.low).at_ size (by omega) (by omega)); clear hI1 hK1 b1 b2)
      refine bodyPost_ret (results_cell_row rfl _ _ (w.heap.size + 1) 34 #[.int .i64 (r / z)] (0, 0) _ rfl (blk_put (cs := #[.int .i64 0]) A6.out 0 _ rfl) Tryd.underlying34 rfl (by kernel_rfl)) rfl ?_
      rw [A3.out]
      exact ⟨rfl, A4.out.set_other A6.out (by decide) (by decide) (by have := B0.out; omega) 0 _, (KeptT.trans (KeptT.of_below A2.out) A5.out).set_fresh (by omega) 0 _⟩
    | false =>
      have hc := findp_calls w0 W2 pb mb n kw k p (scl size) (scl_le size) z HZZ.out (by omega) hi (by omega) HI2
      have A3 := Aside0.mk (show putP p size false = ((findP p (scl size)).1 / 2 ^ scl size, (findP p (scl size)).2) by unfold putP; rw [if_neg (by decide), if_neg h6c.out])
      obtain ⟨hf1, hf2, hf3, hf4⟩ := hi.find (scl size) (scl_le size)
      rw [← HZZ.out] at A3
      have hfw := hf1.words
      generalize findP p (scl size) = R at *
      obtain ⟨r, q⟩ := R
      have hd : wrap64 (r.tdiv z) = r / z := by
        have h0 : (0 : Int) ≤ r := hf2
        have h1 : r ≤ 100000 := by
          have hq : q.words ≤ kw + 1 := hfw.2
          have hp1 := p2pos (scl size)
          have : r + 2 ^ scl size ≤ 64 * q.words := hf3
          omega
        rw [Int.tdiv_eq_ediv_of_nonneg h0]
        have h2 := Int.ediv_nonneg h0 (show 0 ≤ z by omega)
        have h3 := Int.ediv_le_self z h0
        exact w64 (by omega) (by omega)
      rw [hW2] at hg
      clear hW2 hB2 HI2 b1 b2 hput hn hk hi hs hSB H hsize0 hzp hz64 hf1 hf2 hf3 hf4 hfw
      rw [HW2.out] at hc
      go_enter Tryd.func52, Tryd.ntmps52
      go_wp2_with (go_at_call 57; refine hc.mono ?_; rintro e w1 ⟨rfl, hI1, hK1⟩; rw [← HW2.out] at hK1; have b1 := hK1.same _ _ _ _ B1.out (by decide) (by decide); have b2 := hK1.same _ _ _ _ B2.out (by decide) (by decide); have c1 : w1.cell? ⟨w.heap.size, 0, none⟩ = some (.int .i64 size) := (blk_cell b1 0).trans rfl; have c2 : w1.cell? ⟨w.heap.size + 1, 0, none⟩ = some (.int .i64 0) := (blk_cell b2 0).trans rfl; have f2 : w1.frozen? ⟨w.heap.size + 1, 0, none⟩ = false := blk_frozen b2 0; have A4 := Aside0.mk hI1; have A5 := Aside0.mk hK1; have A6 := Aside0.mk b2; have hg1 : w1.cell? ⟨0, size.toNat, none⟩ = some (.int .i64 z) := (by rw [HZZ.out, ← sizeTab_scl size HS.out.1 (by have := HS.out; have := h6c.out; omega)]; exact (HSB.out.mv (w1 := w1) hI1.low).at_ size (by omega) (by omega)); clear hI1 hK1 b1 b2)
      refine bodyPost_ret (results_cell_row rfl _ _ (w.heap.size + 1) 34 #[.int .i64 (r / z)] (0, 0) _ rfl (blk_put (cs := #[.int .i64 0]) A6.out 0 _ rfl) Tryd.underlying34 rfl (by kernel_rfl)) rfl ?_
      rw [A3.out]
      exact ⟨rfl, IsP.mono (n := n + 10) (A4.out.set_other A6.out (by decide) (by decide) (by have := B0.out; omega) 0 _) (by omega), (KeptT.trans (KeptT.of_below A2.out) A5.out).set_fresh (by omega) 0 _⟩
end Go.Proofs.YtjjcepnadjociaaDoor
