/- The reference's field, walked. -/
import Derived.Test.YtjjcepnadjociaaDoorStubRoom
namespace Go.Proofs.YtjjcepnadjociaaDoor
set_option linter.unusedVariables false
set_option linter.unusedSimpArgs false
open Go.RowKit Go.Proofs.YtjjcepnadjociaaDoor.Lem Go.Proofs.YtjjcepnadjociaaDoorW.PrintWords Go.Proofs.YtjjcepnadjociaaDoorW.PrintLast Go.Proofs.YtjjcepnadjociaaDoorW.PrintMore
set_option maxRecDepth 100000 in
theorem scale_calls (size : Int) (hs : 1 ≤ size ∧ size ≤ 6) (w : World) :
    Calls Tryd.prog 55 #[.int .i64 size] w fun e w' => e = .returned (.int .i64 (scl size : Nat)) ∧ w' = w := by
  rcases (by omega : size = 1 ∨ size = 2 ∨ size = 3 ∨ size = 4 ∨ size = 5 ∨ size = 6) with rfl | rfl | rfl | rfl | rfl | rfl
  all_goals (clear hs; go_enter Tryd.func55, Tryd.ntmps55; go_wp2; go_ret; exact ⟨rfl, rfl⟩)
theorem IsLv.all {w0 w : World} {lb : Nat} {p : PS} {pv sv : Value} (h : IsLv w0 w lb p pv sv) : IsL w0 w lb p := ⟨_, _, h⟩
set_option maxHeartbeats 4000000 in
set_option maxRecDepth 100000 in
theorem field_calls (w0 w : World) (lb kw k : Nat) (p : PS) (size : Int) (ch : Bool) (els : Int) (hs : 1 ≤ size ∧ size ≤ 6) (hi : Inv kw k p) (hk : kw ≤ 25 ∧ k ≤ 12) (H : IsL w0 w lb p) :
    Calls Tryd.prog 50 #[.pointer (some ⟨lb, 0, none⟩), .agg #[.int .i64 size, .bool ch, .int .i64 els]] w fun e w' => e = .returned (.int .i64 (putP p size ch).1) ∧ IsL w0 w' lb (putP p size ch).2 ∧ KeptS w w' := by
  obtain ⟨W2, hW2⟩ : ∃ W2, W2 = w.alloc (.cells #[.int .i64 size, .bool ch, .int .i64 els] 27) := ⟨_, rfl⟩
  have hB2 : Below w.heap.size w W2 := by rw [hW2]; exact below_alloc (Below.refl _ _) _
  have HI2 := H.below_ hB2
  have b1 : W2.heap[w.heap.size]? = some (.cells #[.int .i64 size, .bool ch, .int .i64 els] 27 (0, 0)) := by
    rw [hW2]
    simpa using heap_alloc_new w _
  have HW2 := Aside0.mk hW2
  have HK := Aside0.mk hk
  have HI := Aside0.mk hi
  have HS := Aside0.mk hs
  have A2 := Aside0.mk (KeptS.of_below hB2)
  have B1 := Aside0.mk b1
  obtain ⟨pv, sv, hv⟩ := HI2.out
  have HV := Aside0.mk hv
  have hsc := fun W => scale_calls size hs W
  cases ch with
  | false =>
    by_cases h6 : size = 6
    · have h6b : (size == 6) = true := beq_iff_eq.mpr h6
      have A3 := Aside0.mk (show putP p size false = (p.ptrs, { p with ptrs := p.ptrs + 1 }) by unfold putP; rw [if_neg (by decide), if_pos h6])
      obtain ⟨c1, f1⟩ := hv.lay.at_ 1 (v := .int .i64 p.ptrs) rfl
      have hp := hi.ptrs
      have hw : wrap64 (p.ptrs + 1) = p.ptrs + 1 := w64 (by omega) (by omega)
      have hw2 : wrap64 (p.ptrs + 1 - 1) = p.ptrs := by rw [show p.ptrs + 1 - 1 = p.ptrs by omega]; exact w64 (by omega) (by omega)
      have hw3 : wrap64 p.ptrs = p.ptrs := w64 (by omega) (by omega)
      have A4 := Aside0.mk (hv.set_ 1 (.int .i64 (p.ptrs + 1)) (q := { p with ptrs := p.ptrs + 1 }) rfl rfl rfl)
      have hne : lb ≠ w.heap.size := fun e => by
        have e1 := hv.lay.row
        rw [e, b1] at e1
        injection e1 with e1
        injection e1 with _ e2 _
        exact absurd e2 (by decide)
      rw [hW2] at c1 f1
      clear hW2 hB2 HI2 b1 hi hk hs H hv h6 hp hsc
      go_enter Tryd.func50, Tryd.ntmps50
      go_wp2
      rw [← HW2.out]
      go_ret
      rw [A3.out]
      exact ⟨by first | rfl | exact congrArg (fun x => Ending.returned (Value.int .i64 x)) hw3, A4.out.1.all, A2.out.trans A4.out.2⟩
    · have h6b : (size == 6) = false := beq_eq_false_iff_ne.mpr h6
      have hc := datav_calls w0 W2 lb kw k p pv sv (scl size) (scl_le size) hi (by omega) hv
      have A3 := Aside0.mk (show putP p size false = ((findP p (scl size)).1 / 2 ^ scl size, (findP p (scl size)).2) by unfold putP; rw [if_neg (by decide), if_neg h6])
      rw [hW2] at hc
      clear hW2 hB2 HI2 b1 hi hk hs H hv h6
      go_enter Tryd.func50, Tryd.ntmps50
      go_wp2_with (first
        | (go_at_call 55; refine (hsc _).mono ?_; rintro e w1 ⟨rfl, rfl⟩)
        | (go_at_call 53; refine hc.mono ?_; rintro e w1 ⟨rfl, hI1, hK1⟩)
        | go_in)
      go_ret
      rw [← HW2.out] at hK1
      rw [A3.out]
      exact ⟨rfl, hI1.all, A2.out.trans hK1⟩
  | true =>
    have hch := hi.choices
    obtain ⟨c9, f9⟩ := hv.lay.at_ 9 (v := .int .i64 p.choices) rfl
    have hw1 : wrap64 (p.choices + 1) = p.choices + 1 := w64 (by omega) (by omega)
    have A1 := Aside0.mk (hv.set_ 9 (.int .i64 (p.choices + 1)) (q := { p with choices := p.choices + 1 }) rfl rfl rfl)
    have hne : lb ≠ w.heap.size := fun e => by
      have e1 := hv.lay.row
      rw [e, b1] at e1
      injection e1 with e1
      injection e1 with _ e2 _
      exact absurd e2 (by decide)
    have c10 : W2.cell? ⟨w.heap.size, 1, none⟩ = some (.bool true) := (blk_cell b1 1).trans rfl
    rw [hW2] at c9 f9 c10
    clear hW2 hB2 HI2 b1 hi hk hs H hv hsc hch
    go_enter Tryd.func50, Tryd.ntmps50
    go_upto_if 19 with fail
    go_cut [] (fun wc => Aside0 (IsL w0 wc lb (tagP p) ∧ KeptS W2 wc))
    case first =>
      by_cases h2 : p.choices + 1 = 2
      · have hb : (p.choices + 1 == 2) = true := beq_iff_eq.mpr h2
        have hcall := datav_calls w0 _ lb kw (k + 1) { p with choices := p.choices + 1 } pv sv 4 (by decide) HI.out.choose (by have := HK.out; omega) A1.out.1
        have A3 := Aside0.mk (show tagP p = { (findP { p with choices := p.choices + 1 } 4).2 with tag := (findP { p with choices := p.choices + 1 } 4).1 / 16 } by unfold tagP; rw [if_pos h2])
        have hcall2 : Calls Tryd.prog 53 #[.pointer (some ⟨lb, 0, none⟩), .int .i64 4] (W2.setCell ⟨lb, 9, none⟩ (.int .i64 (p.choices + 1))) fun e w' => e = .returned (.int .i64 ((findP { p with choices := p.choices + 1 } 4).1 / 16)) ∧ IsLv w0 w' lb (findP { p with choices := p.choices + 1 } 4).2 pv sv ∧ KeptS (W2.setCell ⟨lb, 9, none⟩ (.int .i64 (p.choices + 1))) w' := hcall
        clear hcall
        generalize findP { p with choices := p.choices + 1 } 4 = r at *
        obtain ⟨r1, q⟩ := r
        rw [HW2.out] at hcall2
        clear h2
        go_wp2_with (go_at_call 53; refine hcall2.mono ?_; rintro e w1 ⟨rfl, hI1, hK1⟩; obtain ⟨c8, f8⟩ := hI1.lay.at_ 8 (v := .int .i64 q.tag) rfl; have A4 := Aside0.mk hI1; have A5 := Aside0.mk hK1; clear hI1 hK1 hcall2)
        go_meet
        case rel =>
          have hK5 := A5.out
          rw [← HW2.out] at hK5
          rw [A3.out]
          have hS := A4.out.set_ 8 (.int .i64 (r1 / 16)) (q := { q with tag := r1 / 16 }) rfl rfl rfl
          exact ⟨hS.1.all, (A1.out.2.trans hK5).trans hS.2⟩
      · have hb : (p.choices + 1 == 2) = false := beq_eq_false_iff_ne.mpr h2
        have A3 := Aside0.mk (show tagP p = { p with choices := p.choices + 1 } by unfold tagP; rw [if_neg h2])
        clear h2
        go_wp2
        go_meet
        case rel => rw [← HW2.out, A3.out]; exact ⟨A1.out.1.all, A1.out.2⟩
    case rest =>
      obtain ⟨hIt, hKt⟩ := hcut.out
      have hit := HI.out.tagged
      have b1 := hKt.same _ _ _ _ B1.out (by decide) (by decide)
      have c20 : wc.cell? ⟨w.heap.size, 0, none⟩ = some (.int .i64 size) := (blk_cell b1 0).trans rfl
      have c21 : wc.cell? ⟨w.heap.size, 1, none⟩ = some (.bool true) := (blk_cell b1 1).trans rfl
      clear hcut A1 c9 f9 c10 hw1
      have hsc := fun W => scale_calls size HS.out W
      by_cases h6 : size = 6
      · have h6b : (size == 6) = true := beq_iff_eq.mpr h6
        have A3 := Aside0.mk (show putP p size true = pointP (tagP p) by unfold putP; rw [if_pos rfl, if_pos h6]; unfold choiceP; rw [if_pos h6])
        clear hsc h6
        generalize tagP p = q at *
        obtain ⟨pv', sv', hv⟩ := hIt.out
        obtain ⟨c1, f1⟩ := hv.lay.at_ 1 (v := .int .i64 q.ptrs) rfl
        obtain ⟨c12, f12⟩ := hv.lay.at_ 12 (v := .int .i64 q.pointer) rfl
        by_cases hn : q.pointer < 0
        · have A4 := Aside0.mk (show pointP q = (q.ptrs, { q with pointer := q.ptrs, ptrs := q.ptrs + 1 }) by unfold pointP; rw [if_pos hn])
          have hb := decide_eq_true hn
          have hw : wrap64 (q.ptrs + 1) = q.ptrs + 1 := by
            have := hit.ptrs
            have := HK.out
            exact w64 (by omega) (by omega)
          have B2 := Aside0.mk hv
          have B3 := Aside0.mk hKt
          clear hIt hKt hv hit hn b1
          go_wp2
          go_ret
          rw [A3.out, A4.out]
          have hS := B2.out.set_ 12 (.int .i64 q.ptrs) (q := { q with pointer := q.ptrs }) rfl rfl rfl
          have hS2 := hS.1.set_ 1 (.int .i64 (q.ptrs + 1)) (q := { q with pointer := q.ptrs, ptrs := q.ptrs + 1 }) rfl rfl rfl
          exact ⟨rfl, hS2.1.all, ((A2.out.trans B3.out).trans hS.2).trans hS2.2⟩
        · have A4 := Aside0.mk (show pointP q = (q.pointer, q) by unfold pointP; rw [if_neg hn])
          have hb := decide_eq_false hn
          have B2 := Aside0.mk hv
          have B3 := Aside0.mk hKt
          clear hIt hKt hv hit hn b1
          go_wp2
          go_ret
          rw [A3.out, A4.out]
          exact ⟨rfl, B2.out.all, A2.out.trans B3.out⟩
      · have h6b : (size == 6) = false := beq_eq_false_iff_ne.mpr h6
        have A3 := Aside0.mk (show putP p size true = ((roomP (tagP p) (scl size)).1 / 2 ^ scl size, (roomP (tagP p) (scl size)).2) by unfold putP; rw [if_pos rfl, if_neg h6]; unfold choiceP; rw [if_neg h6])
        have hc := rooms_calls w0 wc lb (kw + 1) (k + 1) (tagP p) (scl size) (scl_le size) hit (by have := HK.out; omega) hIt
        have B3 := Aside0.mk hKt
        clear h6 hIt hKt hit b1
        go_wp2_with (first
          | (go_at_call 55; refine (hsc _).mono ?_; rintro e w1 ⟨rfl, rfl⟩)
          | (go_at_call 54; refine hc.mono ?_; rintro e w1 ⟨rfl, hI1, hK1⟩)
          | go_in)
        go_ret
        rw [A3.out]
        exact ⟨rfl, hI1, (A2.out.trans B3.out).trans hK1⟩
end Go.Proofs.YtjjcepnadjociaaDoor
