/- The program's own comparison of nodes, walked. -/
import Derived.Test.YtjiidjlmdibhdaaProg
import Derived.Test.YtjiidjlmdibhdaaPx0
import Derived.Test.YtjiidjlmdibhdaaStubSame
import Derived.Deep.CutRange
import Derived.Shelf.Abstract
import Derived.Deep.DeepCutAuto
namespace Go.Proofs.Ytjiidjlmdibhdaa
set_option linter.unusedVariables false
set_option linter.unusedSimpArgs false
open Go.RowKit Go.Proofs.Ytjiidjlmdibhdaa.P Go.Proofs.YtjiidjlmdibhdaaW.PrintWords Go.Proofs.YtjiidjlmdibhdaaW.PrintLast Go.Proofs.YtjiidjlmdibhdaaW.PrintMore
/-- That slices.EqualFunc, by the program's comparison, compares l with any row. -/
def EqF (l : List S29) : Prop := ∀ (m : List S29) (A B : Option Addr) (c d : Nat) (w : World), Kd.C k29 w A l.length l → l.length ≤ c → Kd.C k29 w B m.length m → m.length ≤ d →
    Calls Try.prog 20 #[.slice A l.length c, .slice B m.length d, .func (.func 9) #[] #[]] w fun e w' => e = .returned (.bool (sameL l m)) ∧ Below w.heap.size w w'
set_option maxHeartbeats 4000000 in
set_option maxRecDepth 100000 in
theorem equalFunc_of (l : List S29) (H : ∀ x ∈ l, EqC 9 x) : EqF l := by
  intro m A B c d w hA hc hB hd
  have HH := Aside0.mk H
  have HA := Aside0.mk hA
  have HB := Aside0.mk hB
  clear H hA hB
  have ec : ∀ args w, (callFunc 9 args).run Try.prog w = .ok (.enter 9 args) w := enters_of Try.func9 (by kernel_rfl) rfl
  by_cases hn : l.length = m.length
  · have hne : ((l.length : Int) != (m.length : Int)) = false := bne_eq_false_iff_eq.mpr (by rw [hn])
    have HN := Aside0.mk hn
    have HM := Aside0.mk HA.out.2.1
    clear hn
    go_enter Try.func20, Try.ntmps20
    go_wp2
    go_loopg [17] l.length (fun gg s17 wr => ∃ j : Nat, s17 = .int .i64 j ∧ Aside0 (j ≤ l.length ∧ l.length - j ≤ gg) ∧ Aside0 (Below w.heap.size w wr) ∧ Aside0 (sameL l m = sameL (l.drop j) (m.drop j)))
    case atStart => exact ⟨0, rfl, ⟨Nat.zero_le _, by omega⟩, ⟨Below.refl _ _⟩, ⟨rfl⟩⟩
    case round =>
      obtain ⟨j, rfl, HK, HBr, HS⟩ := hrel
      by_cases hlt : j < l.length
      · have hltz : (j : Int) < (l.length : Int) := by omega
        have hltm : (j : Int) < (m.length : Int) := by rw [← HN.out]; exact hltz
        obtain ⟨ad, A2, c2, A5, c5, e, x0, x1, x2, x3, x4, x5, l2, g2, l5, g5⟩ := at_T29 HA.out (j : Int) (by omega) hltz
        obtain ⟨bd, B2, d2, B5, d5, e', y0, y1, y2, y3, y4, y5, m2, h2, m5, h5⟩ := at_T29 HB.out (j : Int) (by omega) hltm
        subst e e'
        rw [Int.toNat_natCast] at x0 x1 x2 x3 x4 x5 y0 y1 y2 y3 y4 y5
        have hd1 := sameL_drop hlt (by rw [← HN.out]; exact hlt : j < m.length)
        have hx := HH.out (rd_T29 l (j : Int)) (by rw [rdN l j hlt]; exact List.getElem_mem hlt)
        rw [hd1] at HS
        clear hd1
        generalize rd_T29 l (j : Int) = x at *
        generalize rd_T29 m (j : Int) = y at *
        have mv : ∀ {p : Addr} {u : Value}, w.cell? p = some u → wr.cell? p = some u := fun {p u} h => (HBr.out.cell (World.block_lt_of_cell? w _ h)).trans h
        have hcall := fun (W : World) (hb1 : Below w.heap.size w W) => hx y A2 A5 B2 B5 c2 c5 d2 d5 W (Kd.C_below g2 hb1) l2 (Kd.C_below g5 hb1) l5 (Kd.C_below h2 hb1) m2 (Kd.C_below h5 hb1) m5
        have HY := Aside0.mk (And.intro (mv y0) (And.intro (mv y1) (And.intro (mv y2) (And.intro (mv y3) (And.intro (mv y4) (mv y5))))))
        replace x0 := mv x0
        replace x1 := mv x1
        replace x2 := mv x2
        replace x3 := mv x3
        replace x4 := mv x4
        replace x5 := mv x5
        clear y0 y1 y2 y3 y4 y5
        obtain ⟨y0, y1, y2, y3, y4, y5⟩ := HY.out
        clear mv hx g2 g5 h2 h5 l2 l5 m2 m5 hlt
        have HWJ := Aside0.mk (show wrap64 ((j : Int) + 1) = (j : Int) + 1 from w64 (by omega) (by have := HM.out; have := HK.out; omega))
        go_upto_region 6 with fail
        obtain ⟨W1, hW1⟩ : ∃ W1, W1 = wr.alloc (.cells #[.int .i64 x.f0, .string x.f1, .slice A2 x.f2.length c2, .int .i64 x.f3, .int .i64 x.f4, .slice A5 x.f5.length c5] 29) := ⟨_, rfl⟩
        have HB1 := Aside0.mk (show Below w.heap.size w W1 from by rw [hW1]; exact below_alloc HBr.out _)
        have HR1 := Aside0.mk (show W1.heap[wr.heap.size]? = some (.cells #[.int .i64 x.f0, .string x.f1, .slice A2 x.f2.length c2, .int .i64 x.f3, .int .i64 x.f4, .slice A5 x.f5.length c5] 29 (0, 0)) from by rw [hW1]; simpa using heap_alloc_new wr _)
        have mv : ∀ {p : Addr} {u : Value}, wr.cell? p = some u → W1.cell? p = some u := fun {p u} h => by rw [hW1]; exact ((below_alloc (Below.refl wr.heap.size wr) _).cell (World.block_lt_of_cell? wr _ h)).trans h
        replace y0 := mv y0
        replace y1 := mv y1
        replace y2 := mv y2
        replace y3 := mv y3
        replace y4 := mv y4
        replace y5 := mv y5
        rw [← hW1]
        clear mv hW1 x0 x1 x2 x3 x4 x5
        go_upto_region 7 with fail
        obtain ⟨W2, hW2⟩ : ∃ W2, W2 = W1.alloc (.cells #[.int .i64 y.f0, .string y.f1, .slice B2 y.f2.length d2, .int .i64 y.f3, .int .i64 y.f4, .slice B5 y.f5.length d5] 29) := ⟨_, rfl⟩
        have HB2 := Aside0.mk (show Below w.heap.size w W2 from by rw [hW2]; exact below_alloc HB1.out _)
        have b1 : W2.heap[wr.heap.size]? = some (.cells #[.int .i64 x.f0, .string x.f1, .slice A2 x.f2.length c2, .int .i64 x.f3, .int .i64 x.f4, .slice A5 x.f5.length c5] 29 (0, 0)) := by
          rw [hW2]
          exact ((below_alloc (Below.refl W1.heap.size W1) _).block _ (Array.getElem?_eq_some_iff.mp HR1.out).1).trans HR1.out
        have b2 : W2.heap[W1.heap.size]? = some (.cells #[.int .i64 y.f0, .string y.f1, .slice B2 y.f2.length d2, .int .i64 y.f3, .int .i64 y.f4, .slice B5 y.f5.length d5] 29 (0, 0)) := by rw [hW2]; simpa using heap_alloc_new W1 _
        have x0 : W2.cell? ⟨wr.heap.size, 0, none⟩ = some (.int .i64 x.f0) := (blk_cell b1 0).trans rfl
        have x1 : W2.cell? ⟨wr.heap.size, 1, none⟩ = some (.string x.f1) := (blk_cell b1 1).trans rfl
        have x2 : W2.cell? ⟨wr.heap.size, 2, none⟩ = some (.slice A2 x.f2.length c2) := (blk_cell b1 2).trans rfl
        have x3 : W2.cell? ⟨wr.heap.size, 3, none⟩ = some (.int .i64 x.f3) := (blk_cell b1 3).trans rfl
        have x4 : W2.cell? ⟨wr.heap.size, 4, none⟩ = some (.int .i64 x.f4) := (blk_cell b1 4).trans rfl
        have x5 : W2.cell? ⟨wr.heap.size, 5, none⟩ = some (.slice A5 x.f5.length c5) := (blk_cell b1 5).trans rfl
        clear y0 y1 y2 y3 y4 y5
        have y0 : W2.cell? ⟨W1.heap.size, 0, none⟩ = some (.int .i64 y.f0) := (blk_cell b2 0).trans rfl
        have y1 : W2.cell? ⟨W1.heap.size, 1, none⟩ = some (.string y.f1) := (blk_cell b2 1).trans rfl
        have y2 : W2.cell? ⟨W1.heap.size, 2, none⟩ = some (.slice B2 y.f2.length d2) := (blk_cell b2 2).trans rfl
        have y3 : W2.cell? ⟨W1.heap.size, 3, none⟩ = some (.int .i64 y.f3) := (blk_cell b2 3).trans rfl
        have y4 : W2.cell? ⟨W1.heap.size, 4, none⟩ = some (.int .i64 y.f4) := (blk_cell b2 4).trans rfl
        have y5 : W2.cell? ⟨W1.heap.size, 5, none⟩ = some (.slice B5 y.f5.length d5) := (blk_cell b2 5).trans rfl
        rw [← hW2]
        have hcl := hcall W2 HB2.out
        clear hW2 b1 b2 hcall
        cases hv : sameV x y with
        | true =>
          rw [hv] at hcl HS
          clear hv
          go_wp2_with (go_at_fn 9; refine hcl.mono ?_; rintro e w9 ⟨rfl, hb9⟩)
          go_roundg (l.length - (j + 1))
          case measure => have := HK.out; omega
          case rel => exact ⟨j + 1, by first | rfl | (rw [HWJ.out]; rfl), ⟨by omega, by omega⟩, ⟨below_step HB2.out hb9⟩, ⟨by rw [HS.out, Bool.true_and]⟩⟩
        | false =>
          rw [hv] at hcl HS
          clear hv
          go_wp2_with (go_at_fn 9; refine hcl.mono ?_; rintro e w9 ⟨rfl, hb9⟩)
          go_ret
          rw [HS.out]
          exact ⟨rfl, below_step HB2.out hb9⟩
      · have hltz : ¬ (j : Int) < (l.length : Int) := by omega
        have e : sameL l m = true := by
          rw [HS.out, List.drop_eq_nil_of_le (by omega), List.drop_eq_nil_of_le (by rw [← HN.out]; omega)]
          simp [sameL]
        have HE := Aside0.mk e
        clear e hlt
        go_wp2
        go_ret
        rw [HE.out]
        exact ⟨rfl, HBr.out⟩
  · have hne : ((l.length : Int) != (m.length : Int)) = true := bne_iff_ne.mpr (by omega)
    have e : sameL l m = false := by
      cases h : sameL l m with
      | false => rfl
      | true => exact absurd (sameL_length h) hn
    have HE := Aside0.mk e
    clear e hn
    go_enter Try.func20, Try.ntmps20
    go_wp2
    go_ret
    rw [HE.out]
    exact ⟨rfl, Below.refl _ _⟩
set_option maxHeartbeats 4000000 in
set_option maxRecDepth 100000 in
theorem nodeSame_of (x : S29) (H2 : EqF x.f2) (H5 : EqF x.f5) : EqC 9 x := by
  intro y A2 A5 B2 B5 c2 c5 d2 d5 w hA2 hc2 hA5 hc5 hB2 hd2 hB5 hd5
  have HV := Aside0.mk (sameV_def x y)
  obtain ⟨W2, hW2⟩ : ∃ W2, W2 = (w.alloc (.cells #[.int .i64 x.f0, .string x.f1, .slice A2 x.f2.length c2, .int .i64 x.f3, .int .i64 x.f4, .slice A5 x.f5.length c5] 29)).alloc (.cells #[.int .i64 y.f0, .string y.f1, .slice B2 y.f2.length d2, .int .i64 y.f3, .int .i64 y.f4, .slice B5 y.f5.length d5] 29) := ⟨_, rfl⟩
  have hB := Aside0.mk (show Below w.heap.size w W2 from by rw [hW2]; exact below_alloc (below_alloc (Below.refl _ _) _) _)
  have b1 : W2.heap[w.heap.size]? = some (.cells #[.int .i64 x.f0, .string x.f1, .slice A2 x.f2.length c2, .int .i64 x.f3, .int .i64 x.f4, .slice A5 x.f5.length c5] 29 (0, 0)) := by
    rw [hW2, Below.heap_alloc _ _ _ (by simp)]
    simpa using heap_alloc_new w _
  have b2 : W2.heap[w.heap.size + 1]? = some (.cells #[.int .i64 y.f0, .string y.f1, .slice B2 y.f2.length d2, .int .i64 y.f3, .int .i64 y.f4, .slice B5 y.f5.length d5] 29 (0, 0)) := by
    rw [hW2]
    have := heap_alloc_new (w.alloc (.cells #[.int .i64 x.f0, .string x.f1, .slice A2 x.f2.length c2, .int .i64 x.f3, .int .i64 x.f4, .slice A5 x.f5.length c5] 29)) (.cells #[.int .i64 y.f0, .string y.f1, .slice B2 y.f2.length d2, .int .i64 y.f3, .int .i64 y.f4, .slice B5 y.f5.length d5] 29)
    rw [show (w.alloc (.cells #[.int .i64 x.f0, .string x.f1, .slice A2 x.f2.length c2, .int .i64 x.f3, .int .i64 x.f4, .slice A5 x.f5.length c5] 29)).heap.size = w.heap.size + 1 by simp] at this
    exact this
  have B1 := Aside0.mk b1
  have B2_ := Aside0.mk b2
  have HW2 := Aside0.mk hW2
  have hcl2 := H2 y.f2 A2 B2 c2 d2 W2 (Kd.C_below hA2 hB.out) hc2 (Kd.C_below hB2 hB.out) hd2
  have hcl5 := fun (W : World) (hb : Below W2.heap.size W2 W) => H5 y.f5 A5 B5 c5 d5 W (Kd.C_below (Kd.C_below hA5 hB.out) hb) hc5 (Kd.C_below (Kd.C_below hB5 hB.out) hb) hd5
  have p : ∀ W, Below W2.heap.size W2 W → (W.cell? ⟨w.heap.size, 0, none⟩ = some (.int .i64 x.f0) ∧ W.cell? ⟨w.heap.size, 1, none⟩ = some (.string x.f1) ∧ W.cell? ⟨w.heap.size, 2, none⟩ = some (.slice A2 x.f2.length c2) ∧ W.cell? ⟨w.heap.size, 3, none⟩ = some (.int .i64 x.f3) ∧ W.cell? ⟨w.heap.size, 4, none⟩ = some (.int .i64 x.f4) ∧ W.cell? ⟨w.heap.size, 5, none⟩ = some (.slice A5 x.f5.length c5)) ∧ (W.cell? ⟨w.heap.size + 1, 0, none⟩ = some (.int .i64 y.f0) ∧ W.cell? ⟨w.heap.size + 1, 1, none⟩ = some (.string y.f1) ∧ W.cell? ⟨w.heap.size + 1, 2, none⟩ = some (.slice B2 y.f2.length d2) ∧ W.cell? ⟨w.heap.size + 1, 3, none⟩ = some (.int .i64 y.f3) ∧ W.cell? ⟨w.heap.size + 1, 4, none⟩ = some (.int .i64 y.f4) ∧ W.cell? ⟨w.heap.size + 1, 5, none⟩ = some (.slice B5 y.f5.length d5)) := fun W hb => by
    have q1 := (hb.block _ (Array.getElem?_eq_some_iff.mp B1.out).1).trans B1.out
    have q2 := (hb.block _ (Array.getElem?_eq_some_iff.mp B2_.out).1).trans B2_.out
    exact ⟨⟨(blk_cell q1 0).trans rfl, (blk_cell q1 1).trans rfl, (blk_cell q1 2).trans rfl, (blk_cell q1 3).trans rfl, (blk_cell q1 4).trans rfl, (blk_cell q1 5).trans rfl⟩, ⟨(blk_cell q2 0).trans rfl, (blk_cell q2 1).trans rfl, (blk_cell q2 2).trans rfl, (blk_cell q2 3).trans rfl, (blk_cell q2 4).trans rfl, (blk_cell q2 5).trans rfl⟩⟩
  have P := Aside0.mk p
  obtain ⟨⟨x0, x1, x2, x3, x4, x5⟩, y0, y1, y2, y3, y4, y5⟩ := p W2 (Below.refl _ _)
  rw [hW2] at x0 x1 x2 x3 x4 x5 y0 y1 y2 y3 y4 y5 hcl2
  clear hA2 hc2 hA5 hc5 hB2 hd2 hB5 hd5 p b1 b2 hW2 H2 H5
  go_enter Try.func9, Try.ntmps9
  have fin : ∀ (W : World), Below W2.heap.size W2 W → ∀ (b : Bool), sameV x y = b → (Ending.returned (.bool b) = .returned (.bool (sameV x y)) ∧ Below w.heap.size w W) := fun W hb b h => ⟨by rw [h], below_step hB.out hb⟩
  have FIN := Aside0.mk fin
  clear fin
  by_cases e0 : x.f0 = y.f0
  · have t0 : (x.f0 == y.f0) = true := beq_iff_eq.mpr e0
    by_cases e1 : x.f1.toList = y.f1.toList
    · have t1 : (x.f1.toList == y.f1.toList) = true := beq_iff_eq.mpr e1
      by_cases e3 : x.f3 = y.f3
      · have t3 : (x.f3 == y.f3) = true := beq_iff_eq.mpr e3
        by_cases e4 : x.f4 = y.f4
        · have t4 : (x.f4 == y.f4) = true := beq_iff_eq.mpr e4
          have HV1 := Aside0.mk (show sameV x y = (sameL x.f2 y.f2 && sameL x.f5 y.f5) from by rw [HV.out, t0, decide_eq_true e1, t3, t4]; rfl)
          clear e0 e1 e3 e4 HV
          cases hv : sameL x.f2 y.f2 with
          | false =>
            rw [hv] at hcl2
            have HVE := Aside0.mk (show sameV x y = false from by rw [HV1.out, hv]; rfl)
            clear hv HV1
            go_wp2_with (first
              | (go_at_call 20; refine hcl2.mono ?_; rintro e w3 ⟨rfl, hb3⟩)
              | go_in)
            go_ret
            rw [← HW2.out] at hb3
            exact FIN.out _ hb3 _ HVE.out
          | true =>
            rw [hv] at hcl2
            have HV2 := Aside0.mk (show sameV x y = sameL x.f5 y.f5 from by rw [HV1.out, hv, Bool.true_and])
            clear hv HV1
            cases hv5 : sameL x.f5 y.f5 with
            | false =>
              rw [hv5] at hcl5 HV2
              clear hv5
              go_wp2_with (first
                | (go_at_call 20; refine hcl2.mono ?_; rintro e w3 ⟨rfl, hb3⟩; rw [← HW2.out] at hb3; have HB3 := Aside0.mk hb3; clear hb3 hcl2 x0 x1 x2 x3 x4 x5 y0 y1 y2 y3 y4 y5; obtain ⟨⟨x0, x1, x2, x3, x4, x5⟩, y0, y1, y2, y3, y4, y5⟩ := P.out _ HB3.out; have hcl := hcl5 w3 HB3.out; clear hcl5)
                | (go_at_call 20; refine hcl.mono ?_; rintro e w4 ⟨rfl, hb4⟩)
                | go_in)
              go_ret
              exact FIN.out _ (HB3.out.trans (hb4.mono HB3.out.size)) _ HV2.out
            | true =>
              rw [hv5] at hcl5 HV2
              clear hv5
              go_wp2_with (first
                | (go_at_call 20; refine hcl2.mono ?_; rintro e w3 ⟨rfl, hb3⟩; rw [← HW2.out] at hb3; have HB3 := Aside0.mk hb3; clear hb3 hcl2 x0 x1 x2 x3 x4 x5 y0 y1 y2 y3 y4 y5; obtain ⟨⟨x0, x1, x2, x3, x4, x5⟩, y0, y1, y2, y3, y4, y5⟩ := P.out _ HB3.out; have hcl := hcl5 w3 HB3.out; clear hcl5)
                | (go_at_call 20; refine hcl.mono ?_; rintro e w4 ⟨rfl, hb4⟩)
                | go_in)
              go_ret
              exact FIN.out _ (HB3.out.trans (hb4.mono HB3.out.size)) _ HV2.out
        · have t4 : (x.f4 == y.f4) = false := beq_eq_false_iff_ne.mpr e4
          have HVE := Aside0.mk (show sameV x y = false from by rw [HV.out, t4]; simp)
          clear e0 e1 e3 e4 HV
          go_wp2
          go_ret
          rw [← HW2.out]
          exact FIN.out _ (Below.refl _ _) _ HVE.out
      · have t3 : (x.f3 == y.f3) = false := beq_eq_false_iff_ne.mpr e3
        have HVE := Aside0.mk (show sameV x y = false from by rw [HV.out, t3]; simp)
        clear e0 e1 e3 HV
        go_wp2
        go_ret
        rw [← HW2.out]
        exact FIN.out _ (Below.refl _ _) _ HVE.out
    · have t1 : (x.f1.toList == y.f1.toList) = false := beq_eq_false_iff_ne.mpr e1
      have HVE := Aside0.mk (show sameV x y = false from by rw [HV.out, decide_eq_false e1]; simp)
      clear e0 e1 HV
      go_wp2
      go_ret
      rw [← HW2.out]
      exact FIN.out _ (Below.refl _ _) _ HVE.out
  · have t0 : (x.f0 == y.f0) = false := beq_eq_false_iff_ne.mpr e0
    have HVE := Aside0.mk (show sameV x y = false from by rw [HV.out, t0]; rfl)
    clear e0 HV
    go_wp2
    go_ret
    rw [← HW2.out]
    exact FIN.out _ (Below.refl _ _) _ HVE.out
theorem nodeSame_all (x : S29) : EqC 9 x := nd_all (fun x h2 h5 => nodeSame_of x (equalFunc_of _ h2) (equalFunc_of _ h5)) x
end Go.Proofs.Ytjiidjlmdibhdaa
