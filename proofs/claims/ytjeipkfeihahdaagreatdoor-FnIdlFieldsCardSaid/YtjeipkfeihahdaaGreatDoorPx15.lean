-- PRINTED by print.py (a twelfth state) out of the translation. Not trusted: Lean checks it.
import Derived.Test.YtjeipkfeihahdaaGreatDoorLibStep
import Derived.Test.YtjeipkfeihahdaaGreatDoorPx0
import Derived.Test.YtjeipkfeihahdaaGreatDoorPx8
import Derived.Test.YtjeipkfeihahdaaGreatDoorPxB
namespace Go.Proofs.YtjeipkfeihahdaaGreatDoor.P
open Go.RowKit Go.Proofs.YtjeipkfeihahdaaGreatDoorW.PrintWords Go.Proofs.YtjeipkfeihahdaaGreatDoorW.PrintLast Go.Proofs.YtjeipkfeihahdaaGreatDoorW.PrintMore
attribute [local go_sem] max2_int min2_int max_two min_two max_three min_three max_four min_four   -- for this text's walks alone
set_option linter.unusedVariables false
set_option linter.unusedSimpArgs false

/-! ### spec_l9Else: function 34 -/
def spec_l9Else.j0 : Nat → Int → Bool → List (S42) → List (S70) → ByteArray → Int → ByteArray → Bool → Bool → Int → Option (Bool)
 | 0, _, _, _, _, _, _, _, _, _, _ => none
 | k + 1, x5, x18, ql, qj, qe, qh, qf, qg, qk, qd => if x18 = true then (if 0 ≤ x5 then (if x5 < (qj.length : Int) then ((spec_l1In.f qd 0 (wrap64 ((((rd_T70 qj x5).f1).length : Int) - 1))).bind fun t216 => (some t216)) else (none)) else (none)) else ((spec_l9Of.f k ql qj qf qg).bind fun t217 => ((spec_l7Fits.f t217 qd).bind fun t218 => (if t218 = true then ((spec_l9Num.f qd).bind fun t219 => (some t219)) else (some false))))
def spec_l9Else.f (k : Nat) (l0_0 : List (S42)) (l0_1 : List (S70)) (a1_0 : ByteArray) (a1_1 : Int) (a1_2 : ByteArray) (a1_3 : Bool) (a1_4 : Bool) (a1_5 : Int) : Option (Bool) := (spec_l9Enum.f k l0_0 l0_1 a1_2).bind fun t214 => (if t214 ≥ 0 then (spec_l9Else.j0 k t214 (!a1_3) l0_0 l0_1 a1_0 a1_1 a1_2 a1_3 a1_4 a1_5) else (spec_l9Else.j0 k t214 false l0_0 l0_1 a1_0 a1_1 a1_2 a1_3 a1_4 a1_5))
def spec_l9Else.T3 : Bool × List (List Nat × List Nat) := (true, [([], []), ([0], [0]), ([], []), ([2], [2]), ([], []), ([3, 4], [3, 4]), ([5], [5]), ([6], [6]), ([7], [7]), ([8], [8]), ([1, 9], [1, 9]), ([10, 10, 0, 1, 2, 3, 4, 5, 6, 7, 8, 9, 10], [10])])
def spec_l9Else.B3 : List Nat := [0, 1, 0, 4, 0, 28, 60, 124, 252, 508, 1023, 2047]
theorem spec_l9Else.tab3 : rtab .any (opsOf Tryz.f34 3) = spec_l9Else.T3 := by kernel_rfl
theorem spec_l9Else.bits3 : waitsOk spec_l9Else.T3.2 spec_l9Else.B3 = true := by kernel_rfl
def spec_l9Else.T4 : Bool × List (List Nat × List Nat) := (true, [([], []), ([], []), ([1], [1]), ([0, 2], [0, 2]), ([], []), ([4], [4]), ([3, 5, 3], [3, 5]), ([6, 6], [6]), ([7], [7]), ([8, 7], [7, 8]), ([9, 7, 7], [7, 9]), ([7, 10], [7, 10]), ([11, 10, 0, 1, 2, 3, 4, 5, 6, 7, 8, 9, 10, 11], [11])])
def spec_l9Else.B4 : List Nat := [0, 0, 2, 7, 0, 16, 63, 127, 255, 511, 1023, 2047, 4095]
theorem spec_l9Else.tab4 : rtab .any (opsOf Tryz.f34 4) = spec_l9Else.T4 := by kernel_rfl
theorem spec_l9Else.bits4 : waitsOk spec_l9Else.T4.2 spec_l9Else.B4 = true := by kernel_rfl
set_option maxHeartbeats 8000000 in
set_option maxRecDepth 100000 in
theorem spec_l9Else.calls (k : Nat) (A0_0 : Option Addr) (c0_0 : Nat) (l0_0 : List (S42)) (A0_1 : Option Addr) (c0_1 : Nat) (l0_1 : List (S70)) (a1_0 : ByteArray) (a1_1 : Int) (a1_2 : ByteArray) (a1_3 : Bool) (a1_4 : Bool) (a1_5 : Int) (r : Bool) (w : World) (hr0_0 : Kd.C k42 w A0_0 l0_0.length l0_0) (hc0_0 : l0_0.length ≤ c0_0) (hr0_1 : Kd.C k70 w A0_1 l0_1.length l0_1) (hc0_1 : l0_1.length ≤ c0_1) (h : spec_l9Else.f k l0_0 l0_1 a1_0 a1_1 a1_2 a1_3 a1_4 a1_5 = some r) :
  Calls Tryz.prog 34 #[.agg #[.slice A0_0 l0_0.length c0_0, .slice A0_1 l0_1.length c0_1], .agg #[.string a1_0, .int .i64 a1_1, .string a1_2, .bool a1_3, .bool a1_4, .int .i64 a1_5]] w fun e w' => e = .returned (.bool r) ∧ Below w.heap.size w w' := by
 have hu26 := Tryz.underlying26
 have hu46 := Tryz.underlying46
 have hu44 := Tryz.underlying44
 have HR0_0 := Aside0.mk hr0_0
 have HC0_0 := Aside0.mk hc0_0
 clear hr0_0 hc0_0
 have HR0_1 := Aside0.mk hr0_1
 have HC0_1 := Aside0.mk hc0_1
 clear hr0_1 hc0_1
 have HB := Aside0.mk (Below.refl w.heap.size w)
 have H : ((spec_l9Enum.f k l0_0 l0_1 a1_2).bind fun t214 => (if t214 ≥ 0 then (spec_l9Else.j0 k t214 (!a1_3) l0_0 l0_1 a1_0 a1_1 a1_2 a1_3 a1_4 a1_5) else (spec_l9Else.j0 k t214 false l0_0 l0_1 a1_0 a1_1 a1_2 a1_3 a1_4 a1_5))) = some r := h
 clear h
 replace H := Option.bind_eq_some_iff.mp H
 obtain ⟨t214, A30, H⟩ := H
 replace H : (if t214 ≥ 0 then (spec_l9Else.j0 k t214 (!a1_3) l0_0 l0_1 a1_0 a1_1 a1_2 a1_3 a1_4 a1_5) else (spec_l9Else.j0 k t214 false l0_0 l0_1 a1_0 a1_1 a1_2 a1_3 a1_4 a1_5)) = some r := H
 have A3 := Aside0.mk A30
 clear A30
 have HC4 := Aside0.mk H
 clear H
 go_enter Tryz.func34, Tryz.ntmps34
 go_upto_region 2 with (first | ((with_reducible refine gate_dst (N := 2) rfl ?_); refine box_event ?hg (N := 2) ?hd (cs := #[.slice A0_0 l0_0.length c0_0, .slice A0_1 l0_1.length c0_1]) (t := 26) ?hr ?_; (case hd => rfl); (case hg => rfl); (case hr => first | (go_simp; done) | (go_simp; rfl)); intro gb212 hg w5 hbox hb; have n0_ := Aside0.mk (below_step (by repeat (first | (with_reducible first | exact HB.out | apply below_alloc | apply pw_below_drewN | apply below_drew1) | exact HB.out)) hb); have n1_ := Aside0.mk (hbox); have n2_ := Aside0.mk ((by rw [hg]; exact (below_size (by repeat (first | (with_reducible first | exact HB.out | apply below_alloc | apply pw_below_drewN | apply below_drew1) | exact HB.out))) : w.heap.size ≤ gb212)); have n3_ := Aside0.mk ((by rw [hg]; exact (below_size (by repeat (first | (with_reducible first | exact HB.out | apply below_alloc | apply pw_below_drewN | apply below_drew1) | exact HB.out))) : w.heap.size ≤ gb212)); clear HB; have HB := n0_; have qo := n1_; have qp := n2_; have qm := n3_; clear n0_ n1_ n2_ n3_; clear hb hbox hg) | ((with_reducible refine gate_dst (N := 3) rfl ?_); refine box_event ?hg (N := 3) ?hd (cs := #[.string a1_0, .int .i64 a1_1, .string a1_2, .bool a1_3, .bool a1_4, .int .i64 a1_5]) (t := 46) ?hr ?_; (case hd => rfl); (case hg => rfl); (case hr => first | (go_simp; done) | (go_simp; rfl)); intro gb213 hg w6 hbox hb; have n0_ := Aside0.mk (blk_below (g := gb212) (o := .cells #[.slice A0_0 l0_0.length c0_0, .slice A0_1 l0_1.length c0_1] 26 (0, 0)) (by (with_reducible repeat (first | refine blk_drewN ?_ _ | refine blk_drew ?_ | refine blk_alloc ?_ _)); exact qo.out) hb); have n1_ := Aside0.mk (below_step (by repeat (first | (with_reducible first | exact HB.out | apply below_alloc | apply pw_below_drewN | apply below_drew1 | refine below_set ?_ qm.out) | exact HB.out)) hb); have n2_ := Aside0.mk (hbox); have n3_ := Aside0.mk ((by rw [hg]; exact (below_size (by repeat (first | (with_reducible first | exact HB.out | apply below_alloc | apply pw_below_drewN | apply below_drew1 | refine below_set ?_ qm.out) | exact HB.out))) : w.heap.size ≤ gb213)); have n4_ := Aside0.mk ((by rw [hg]; exact (below_size (by repeat (first | (with_reducible first | exact HB.out | apply below_alloc | apply pw_below_drewN | apply below_drew1 | refine below_set ?_ qm.out) | exact HB.out))) : w.heap.size ≤ gb213)); have n5_ := Aside0.mk ((by rw [hg]; exact Nat.ne_of_lt (blk_lt (g := gb212) (o := .cells #[.slice A0_0 l0_0.length c0_0, .slice A0_1 l0_1.length c0_1] 26 (0, 0)) (by (with_reducible repeat (first | refine blk_drewN ?_ _ | refine blk_drew ?_ | refine blk_alloc ?_ _)); exact qo.out)) : gb212 ≠ gb213)); have n6_ := Aside0.mk ((by rw [hg]; exact Nat.ne_of_gt (blk_lt (g := gb212) (o := .cells #[.slice A0_0 l0_0.length c0_0, .slice A0_1 l0_1.length c0_1] 26 (0, 0)) (by (with_reducible repeat (first | refine blk_drewN ?_ _ | refine blk_drew ?_ | refine blk_alloc ?_ _)); exact qo.out)) : gb213 ≠ gb212)); clear qo; clear HB; have qo := n0_; have HB := n1_; have qn := n2_; have qq := n3_; have qr := n4_; have qa := n5_; have qb := n6_; clear n0_ n1_ n2_ n3_ n4_ n5_ n6_; clear hb hbox hg; have hnb7 := qa.out; have hnc7 := qb.out; have hcz8_0 : w6.cell? ⟨gb212, 0, none⟩ = some (.slice A0_0 l0_0.length c0_0) := (blk_cell qo.out 0).trans rfl; have hcz8_1 : w6.cell? ⟨gb212, 1, none⟩ = some (.slice A0_1 l0_1.length c0_1) := (blk_cell qo.out 1).trans rfl; have hfz8_0 := blk_frozen qo.out 0; have hfz8_1 := blk_frozen qo.out 1; have hcz9_0 : w6.cell? ⟨gb213, 0, none⟩ = some (.string a1_0) := (blk_cell qn.out 0).trans rfl; have hcz9_1 : w6.cell? ⟨gb213, 1, none⟩ = some (.int .i64 a1_1) := (blk_cell qn.out 1).trans rfl; have hcz9_2 : w6.cell? ⟨gb213, 2, none⟩ = some (.string a1_2) := (blk_cell qn.out 2).trans rfl; have hcz9_3 : w6.cell? ⟨gb213, 3, none⟩ = some (.bool a1_3) := (blk_cell qn.out 3).trans rfl; have hcz9_4 : w6.cell? ⟨gb213, 4, none⟩ = some (.bool a1_4) := (blk_cell qn.out 4).trans rfl; have hcz9_5 : w6.cell? ⟨gb213, 5, none⟩ = some (.int .i64 a1_5) := (blk_cell qn.out 5).trans rfl; have hfz9_0 := blk_frozen qn.out 0; have hfz9_1 := blk_frozen qn.out 1; have hfz9_2 := blk_frozen qn.out 2; have hfz9_3 := blk_frozen qn.out 3; have hfz9_4 := blk_frozen qn.out 4; have hfz9_5 := blk_frozen qn.out 5) | ((with_reducible refine gate_callee (f := 56) rfl ?_); refine goesL_ (some 10) rfl rfl Tryz.func56 (by kernel_rfl) rfl #[.agg #[.slice A0_0 l0_0.length c0_0, .slice A0_1 l0_1.length c0_1], .string a1_2] rfl (by (try simp only [List.map_toArray, List.map_cons, List.map_nil]); first | done | rfl | (simp only [List.length_drop, List.length_take]; rfl)) ?_; (with_reducible refine (spec_l9Enum.calls k _ _ l0_0 _ _ l0_1 a1_2 t214 _ ?side1 ?side2 ?side3 ?side4 A3.out).mono ?_); (case side1 => repeat (first | exact (Kd.C_below HR0_0.out HB.out) | (with_reducible refine Kd.C_alloc ?_ _) | (with_reducible refine Kd.C_drewN ?_ _) | (with_reducible refine Kd.C_drew ?_))); (case side2 => exact HC0_0.out); (case side3 => repeat (first | exact (Kd.C_below HR0_1.out HB.out) | (with_reducible refine Kd.C_alloc ?_ _) | (with_reducible refine Kd.C_drewN ?_ _) | (with_reducible refine Kd.C_drew ?_))); (case side4 => exact HC0_1.out); rintro e w10 ⟨rfl, hb⟩; refine ⟨_, rfl, ?_⟩; have n0_ := Aside0.mk (blk_below (g := gb212) (o := .cells #[.slice A0_0 l0_0.length c0_0, .slice A0_1 l0_1.length c0_1] 26 (0, 0)) (by (with_reducible repeat (first | refine blk_drewN ?_ _ | refine blk_drew ?_ | refine blk_alloc ?_ _)); exact qo.out) hb); have n1_ := Aside0.mk (blk_below (g := gb213) (o := .cells #[.string a1_0, .int .i64 a1_1, .string a1_2, .bool a1_3, .bool a1_4, .int .i64 a1_5] 46 (0, 0)) (by (with_reducible repeat (first | refine blk_drewN ?_ _ | refine blk_drew ?_ | refine blk_alloc ?_ _)); exact qn.out) hb); have n2_ := Aside0.mk (below_step (by repeat (first | (with_reducible first | exact HB.out | apply below_alloc | apply pw_below_drewN | apply below_drew1 | refine below_set ?_ qm.out | refine below_set ?_ qr.out) | exact HB.out)) hb); clear qo; clear qn; clear HB; have qo := n0_; have qn := n1_; have HB := n2_; clear n0_ n1_ n2_; (try clear hb); (try clear hb2); (try clear hk); (try clear hi)))
 (try simp only [Act.put, List.setIfInBounds_toArray, List.set_cons_zero, List.set_cons_succ])
 go_cut [18] (fun v18 wc => ∃ (kq : Nat) (x18_3 : Bool), v18 = .bool x18_3 ∧ Aside0 (spec_l9Else.j0 kq t214 x18_3 l0_0 l0_1 a1_0 a1_1 a1_2 a1_3 a1_4 a1_5 = some r) ∧ Aside0 (kq ≤ k) ∧ Aside0 (wc.heap[gb212]? = some (.cells #[(.slice A0_0 l0_0.length c0_0), (.slice A0_1 l0_1.length c0_1)] 26 (0, 0))) ∧ Aside0 (wc.heap[gb213]? = some (.cells #[.string a1_0, .int .i64 a1_1, .string a1_2, .bool a1_3, .bool a1_4, .int .i64 a1_5] 46 (0, 0))) ∧ Aside0 (Below w.heap.size w wc))
 case first =>
  have H := HC4.out
  clear HC4
  by_cases c11 : t214 ≥ 0
  ·rw [if_pos c11] at H
   have c11b0 : decide (0 ≤ t214) = true := decide_eq_true c11
   clear c11
   (first | rw [c11b0] | (simp only [i64_w, i32_w]; rw [c11b0]) | skip)
   have H' := Aside0.mk H
   clear H
   have hnb12 := qb.out
   have hnc12 := qa.out
   have hcz13_0 : w10.cell? ⟨gb213, 0, none⟩ = some (.string a1_0) := (blk_cell qn.out 0).trans rfl
   have hcz13_1 : w10.cell? ⟨gb213, 1, none⟩ = some (.int .i64 a1_1) := (blk_cell qn.out 1).trans rfl
   have hcz13_2 : w10.cell? ⟨gb213, 2, none⟩ = some (.string a1_2) := (blk_cell qn.out 2).trans rfl
   have hcz13_3 : w10.cell? ⟨gb213, 3, none⟩ = some (.bool a1_3) := (blk_cell qn.out 3).trans rfl
   have hcz13_4 : w10.cell? ⟨gb213, 4, none⟩ = some (.bool a1_4) := (blk_cell qn.out 4).trans rfl
   have hcz13_5 : w10.cell? ⟨gb213, 5, none⟩ = some (.int .i64 a1_5) := (blk_cell qn.out 5).trans rfl
   have hfz13_0 := blk_frozen qn.out 0
   have hfz13_1 := blk_frozen qn.out 1
   have hfz13_2 := blk_frozen qn.out 2
   have hfz13_3 := blk_frozen qn.out 3
   have hfz13_4 := blk_frozen qn.out 4
   have hfz13_5 := blk_frozen qn.out 5
   go_wp2
   go_meet
   case rel => exact ⟨_, (!a1_3), (by first | rfl | (simp; done) | (simp [*]; done)), H', ⟨by first | omega | exact Nat.le_refl _⟩, ⟨by (with_reducible repeat (first | refine blk_drewN ?_ _ | refine blk_drew ?_ | refine blk_alloc ?_ _)); exact qo.out⟩, ⟨by (with_reducible repeat (first | refine blk_drewN ?_ _ | refine blk_drew ?_ | refine blk_alloc ?_ _)); exact qn.out⟩, ⟨by repeat (first | (with_reducible first | exact HB.out | apply below_alloc | apply pw_below_drewN | apply below_drew1 | refine below_set ?_ qm.out | refine below_set ?_ qr.out) | exact HB.out)⟩⟩
  ·rw [if_neg c11] at H
   have c11b0 : decide (0 ≤ t214) = false := decide_eq_false c11
   clear c11
   (first | rw [c11b0] | (simp only [i64_w, i32_w]; rw [c11b0]) | skip)
   have H' := Aside0.mk H
   clear H
   go_wp2
   go_meet
   case rel => exact ⟨_, (false), (by first | rfl | (simp; done) | (simp [*]; done)), H', ⟨by first | omega | exact Nat.le_refl _⟩, ⟨by (with_reducible repeat (first | refine blk_drewN ?_ _ | refine blk_drew ?_ | refine blk_alloc ?_ _)); exact qo.out⟩, ⟨by (with_reducible repeat (first | refine blk_drewN ?_ _ | refine blk_drew ?_ | refine blk_alloc ?_ _)); exact qn.out⟩, ⟨by repeat (first | (with_reducible first | exact HB.out | apply below_alloc | apply pw_below_drewN | apply below_drew1 | refine below_set ?_ qm.out | refine below_set ?_ qr.out) | exact HB.out)⟩⟩
 case rest =>
  clear HC4
  try clear c1
  try clear p2
  try clear c3
  try clear c5
  try clear c7
  try clear c11
  try clear c11b0
  try clear c12
  try clear hcz13_0
  try clear hcz13_1
  try clear hcz13_2
  try clear hcz13_3
  try clear hcz13_4
  try clear hcz13_5
  try clear hcz8_0
  try clear hcz8_1
  try clear hcz9_0
  try clear hcz9_1
  try clear hcz9_2
  try clear hcz9_3
  try clear hcz9_4
  try clear hcz9_5
  try clear hfz13_0
  try clear hfz13_1
  try clear hfz13_2
  try clear hfz13_3
  try clear hfz13_4
  try clear hfz13_5
  try clear hfz8_0
  try clear hfz8_1
  try clear hfz9_0
  try clear hfz9_1
  try clear hfz9_2
  try clear hfz9_3
  try clear hfz9_4
  try clear hfz9_5
  obtain ⟨kq, x18_3, rfl, HA, HJ3, qo, qn, HB⟩ := hcut
  cases kq with
  | zero => exact absurd HA.out (by simp [spec_l9Else.j0])
  | succ kj3 =>
   have H := HA.out
   clear HA
   simp only [spec_l9Else.j0] at H
   by_cases c14 : x18_3 = true
   ·subst c14
    have H1 : (if 0 ≤ t214 then (if t214 < (l0_1.length : Int) then ((spec_l1In.f a1_5 0 (wrap64 ((((rd_T70 l0_1 t214).f1).length : Int) - 1))).bind fun t216 => (some t216)) else (none)) else (none)) = some r := by rw [if_pos rfl] at H; exact H
    clear H
    have H := H1
    clear H1
    by_cases c15 : 0 ≤ t214
    ·rw [if_pos c15] at H
     have c15b0 : decide (0 ≤ t214) = true := decide_eq_true c15
     clear c15
     by_cases c16 : t214 < (l0_1.length : Int)
     ·rw [if_pos c16] at H
      have c16b0 : decide (t214 < (l0_1.length : Int)) = true := decide_eq_true c16
      clear c16
      replace H := Option.bind_eq_some_iff.mp H
      obtain ⟨t216, A170, H⟩ := H
      replace H : (some t216) = some r := H
      have A17 := Aside0.mk A170
      clear A170
      obtain rfl := Option.some.inj H
      try go_wp2
      have n0_ := Aside0.mk (blk_drew qo.out)
      have n1_ := Aside0.mk (blk_drew qn.out)
      have n2_ := Aside0.mk (below_drew1 HB.out)
      clear qo
      clear qn
      clear HB
      have qo := n0_
      have qn := n1_
      have HB := n2_
      clear n0_ n1_ n2_
      have p215 : 0 ≤ (t214 : Int) := of_decide_eq_true (by assumption)
      have q215 : t214 < (l0_1.length : Int) := of_decide_eq_true (by assumption)
      obtain ⟨ad215, A215_1, c215_1, e215, qc, qi, hl215_1, hi215_1⟩ := at_T70 HR0_1.out t214 p215 q215
      have hw215_1 := qi
      have hw215_0 := qc
      cases e215
      replace qc := pw_cell_below HB.out qc
      replace qi := pw_cell_below HB.out qi
      have HR215_1 := Aside0.mk hi215_1
      have HC215_1 := Aside0.mk hl215_1
      clear hi215_1 hl215_1
      replace p215 := eq_true p215
      replace q215 := eq_true q215
      refine start_ (n := 12) (S := fun w' => w'.cell? ⟨gb213, 0, none⟩ = some (.string a1_0) ∧ w'.cell? ⟨gb213, 1, none⟩ = some (.int .i64 a1_1) ∧ w'.cell? ⟨gb213, 2, none⟩ = some (.string a1_2) ∧ w'.cell? ⟨gb213, 3, none⟩ = some (.bool a1_3) ∧ w'.cell? ⟨gb213, 4, none⟩ = some (.bool a1_4) ∧ w'.cell? ⟨gb213, 5, none⟩ = some (.int .i64 a1_5) ∧ w'.cell? ⟨gb212, 0, none⟩ = some (.slice A0_0 l0_0.length c0_0) ∧ w'.cell? ⟨gb212, 1, none⟩ = some (.slice (some ad215) l0_1.length c0_1) ∧ w'.cell? (ad215.add ((t214).toNat * 2)) = some (.string ((rd_T70 l0_1 t214).f0)) ∧ w'.cell? ⟨(ad215.add ((t214).toNat * 2)).block, (ad215.add ((t214).toNat * 2)).off + 1, none⟩ = some (.slice A215_1 ((rd_T70 l0_1 t214).f1).length c215_1)) (ds := []) #[false, false, false, false, false, false, false, false, false, false, false, false] (by kernel_rfl) rfl rfl ⟨(blk_cell qn.out 0).trans rfl, (blk_cell qn.out 1).trans rfl, (blk_cell qn.out 2).trans rfl, (blk_cell qn.out 3).trans rfl, (blk_cell qn.out 4).trans rfl, (blk_cell qn.out 5).trans rfl, (blk_cell qo.out 0).trans rfl, (blk_cell qo.out 1).trans rfl, (pw_cell_below HB.out hw215_0), (pw_cell_below HB.out hw215_1)⟩ (fun hHeld => ?_); refine with_tabW spec_l9Else.tab3 spec_l9Else.bits3 (fun HT_ HW_ => ?_)
      generalize wc.drew = w18 at qo qn HB HR215_1 qc qi hHeld ⊢
      refine pu_ 0 (some 19) rfl ?_
      refine pu_ 2 (some 21) rfl ?_
      refine pu_ 4 (some 23) rfl ?_
      refine tk_ 1 (some 20) rfl hHeld ?_
      refine tk_ 3 (some 22) rfl hHeld ?_
      refine pu_ 5 (some 24) rfl ?_
      refine pu_ 6 (some 25) rfl ?_
      refine tk_ 7 (some 26) rfl hHeld ?_
      refine pu_ 8 (some 27) rfl ?_
      refine pu_ 9 (some 28) rfl ?_
      refine on_ 10 (some 29) rfl (fun K hK => ?_)
      refine goes_ Tryz.func54 (by kernel_rfl) rfl #[.int .i64 a1_5, .int .i64 0, .int .i64 (wrap64 ((((rd_T70 l0_1 t214).f1).length : Int) - 1))] (by rfl) rfl rfl (by (try simp only [List.map_toArray, List.map_cons, List.map_nil]); first | done | rfl | (simp only [List.length_drop, List.length_take]; rfl)) ?_
      with_reducible refine (spec_l1In.calls a1_5 0 (wrap64 ((((rd_T70 l0_1 t214).f1).length : Int) - 1)) t216 _ A17.out).mono ?_
      rintro e w' ⟨rfl, ⟨nd, rfl⟩⟩
      refine ⟨_, rfl, ?_⟩
      refine hK.out _ _ ⟨(blk_cell qn.out 0).trans rfl, (blk_cell qn.out 1).trans rfl, (blk_cell qn.out 2).trans rfl, (blk_cell qn.out 3).trans rfl, (blk_cell qn.out 4).trans rfl, (blk_cell qn.out 5).trans rfl, (blk_cell qo.out 0).trans rfl, (blk_cell qo.out 1).trans rfl, (pw_cell_below HB.out hw215_0), (pw_cell_below HB.out hw215_1)⟩ (fun hHeld => ?_)
      clear hK K
      refine no_ 29 ?_
      refine pu_ 11 (some 4) rfl ?_
      refine done_ (done_of HT_.out (by kernel_rfl)) ?_
      try go_wp2
      go_ret
      exact ⟨by first | rfl | (simp [errW_none, errW_some] <;> rfl) | (simp [*, errW_none, errW_some] <;> rfl) | (simp only [Bool.and_eq_true, beq_iff_eq, Bool.not_eq_true', Bool.not_eq_eq_eq_not, Bool.not_true, Bool.not_false] at *; simp [*]), by repeat (first | (with_reducible first | exact HB.out | apply below_alloc | apply pw_below_drewN | apply below_drew1 | refine below_set ?_ qm.out | refine below_set ?_ qr.out) | exact HB.out)⟩
     ·rw [if_neg c16] at H
      exact absurd H (by simp)
    ·rw [if_neg c15] at H
     exact absurd H (by simp)
   ·replace c14 := Bool.eq_false_iff.mpr c14
    subst c14
    have H1 : ((spec_l9Of.f kj3 l0_0 l0_1 a1_2 a1_3).bind fun t217 => ((spec_l7Fits.f t217 a1_5).bind fun t218 => (if t218 = true then ((spec_l9Num.f a1_5).bind fun t219 => (some t219)) else (some false)))) = some r := by rw [if_neg (show ¬ (false = true) by decide)] at H; exact H
    clear H
    have H := H1
    clear H1
    replace H := Option.bind_eq_some_iff.mp H
    obtain ⟨t217, A190, H⟩ := H
    replace H : ((spec_l7Fits.f t217 a1_5).bind fun t218 => (if t218 = true then ((spec_l9Num.f a1_5).bind fun t219 => (some t219)) else (some false))) = some r := H
    have A19 := Aside0.mk A190
    clear A190
    replace H := Option.bind_eq_some_iff.mp H
    obtain ⟨t218, A200, H⟩ := H
    replace H : (if t218 = true then ((spec_l9Num.f a1_5).bind fun t219 => (some t219)) else (some false)) = some r := H
    have A20 := Aside0.mk A200
    clear A200
    by_cases c21 : t218 = true
    ·subst c21
     have H1 : ((spec_l9Num.f a1_5).bind fun t219 => (some t219)) = some r := by rw [if_pos rfl] at H; exact H
     clear H
     have H := H1
     clear H1
     replace H := Option.bind_eq_some_iff.mp H
     obtain ⟨t219, A220, H⟩ := H
     replace H : (some t219) = some r := H
     have A22 := Aside0.mk A220
     clear A220
     obtain rfl := Option.some.inj H
     try go_wp2
     have n0_ := Aside0.mk (blk_drew qo.out)
     have n1_ := Aside0.mk (blk_drew qn.out)
     have n2_ := Aside0.mk (below_drew1 HB.out)
     clear qo
     clear qn
     clear HB
     have qo := n0_
     have qn := n1_
     have HB := n2_
     clear n0_ n1_ n2_
     refine start_ (n := 13) (S := fun w' => w'.cell? ⟨gb212, 0, none⟩ = some (.slice A0_0 l0_0.length c0_0) ∧ w'.cell? ⟨gb212, 1, none⟩ = some (.slice A0_1 l0_1.length c0_1) ∧ w'.cell? ⟨gb213, 0, none⟩ = some (.string a1_0) ∧ w'.cell? ⟨gb213, 1, none⟩ = some (.int .i64 a1_1) ∧ w'.cell? ⟨gb213, 2, none⟩ = some (.string a1_2) ∧ w'.cell? ⟨gb213, 3, none⟩ = some (.bool a1_3) ∧ w'.cell? ⟨gb213, 4, none⟩ = some (.bool a1_4) ∧ w'.cell? ⟨gb213, 5, none⟩ = some (.int .i64 a1_5)) (ds := []) #[false, false, false, false, false, false, false, false, false, false, false, false, false] (by kernel_rfl) rfl rfl ⟨(blk_cell qo.out 0).trans rfl, (blk_cell qo.out 1).trans rfl, (blk_cell qn.out 0).trans rfl, (blk_cell qn.out 1).trans rfl, (blk_cell qn.out 2).trans rfl, (blk_cell qn.out 3).trans rfl, (blk_cell qn.out 4).trans rfl, (blk_cell qn.out 5).trans rfl⟩ (fun hHeld => ?_); refine with_tabW spec_l9Else.tab4 spec_l9Else.bits4 (fun HT_ HW_ => ?_)
     generalize wc.drew = w23 at qo qn HB hHeld ⊢
     refine pu_ 1 (some 31) rfl ?_
     refine pu_ 4 (some 34) rfl ?_
     refine tk_ 0 (some 30) rfl hHeld ?_
     refine tk_ 2 (some 32) rfl hHeld ?_
     refine tk_ 5 (some 35) rfl hHeld ?_
     refine on_ 3 (some 33) rfl (fun K hK => ?_)
     refine goes_ Tryz.func32 (by kernel_rfl) rfl #[.agg #[.slice A0_0 l0_0.length c0_0, .slice A0_1 l0_1.length c0_1], .agg #[.string a1_2, .bool a1_3]] (by rfl) rfl rfl (by (try simp only [List.map_toArray, List.map_cons, List.map_nil]); first | done | rfl | (simp only [List.length_drop, List.length_take]; rfl)) ?_
     with_reducible refine (spec_l9Of.calls kj3 _ _ l0_0 _ _ l0_1 a1_2 a1_3 t217 _ ?side1 ?side2 ?side3 ?side4 A19.out).mono ?_
     (case side1 => repeat (first | exact (Kd.C_below HR0_0.out HB.out) | (with_reducible refine Kd.C_alloc ?_ _) | (with_reducible refine Kd.C_drewN ?_ _) | (with_reducible refine Kd.C_drew ?_)))
     (case side2 => exact HC0_0.out)
     (case side3 => repeat (first | exact (Kd.C_below HR0_1.out HB.out) | (with_reducible refine Kd.C_alloc ?_ _) | (with_reducible refine Kd.C_drewN ?_ _) | (with_reducible refine Kd.C_drew ?_)))
     (case side4 => exact HC0_1.out)
     rintro e w24 ⟨rfl, hb⟩
     refine ⟨_, rfl, ?_⟩
     have n0_ := Aside0.mk (blk_below (g := gb212) (o := .cells #[.slice A0_0 l0_0.length c0_0, .slice A0_1 l0_1.length c0_1] 26 (0, 0)) (by (with_reducible repeat (first | refine blk_drewN ?_ _ | refine blk_drew ?_ | refine blk_alloc ?_ _)); exact qo.out) hb)
     have n1_ := Aside0.mk (blk_below (g := gb213) (o := .cells #[.string a1_0, .int .i64 a1_1, .string a1_2, .bool a1_3, .bool a1_4, .int .i64 a1_5] 46 (0, 0)) (by (with_reducible repeat (first | refine blk_drewN ?_ _ | refine blk_drew ?_ | refine blk_alloc ?_ _)); exact qn.out) hb)
     have n2_ := Aside0.mk (below_step (by repeat (first | (with_reducible first | exact HB.out | apply below_alloc | apply pw_below_drewN | apply below_drew1 | refine below_set ?_ qm.out | refine below_set ?_ qr.out) | exact HB.out)) hb)
     clear qo
     clear qn
     clear HB
     have qo := n0_
     have qn := n1_
     have HB := n2_
     clear n0_ n1_ n2_
     (try clear hb)
     (try clear hb2)
     (try clear hk)
     (try clear hi)
     refine hK.out _ _ ⟨(blk_cell qo.out 0).trans rfl, (blk_cell qo.out 1).trans rfl, (blk_cell qn.out 0).trans rfl, (blk_cell qn.out 1).trans rfl, (blk_cell qn.out 2).trans rfl, (blk_cell qn.out 3).trans rfl, (blk_cell qn.out 4).trans rfl, (blk_cell qn.out 5).trans rfl⟩ (fun hHeld => ?_)
     clear hK K
     refine no_ 33 ?_
     refine on_ 6 (some 36) rfl (fun K hK => ?_)
     refine goes_ Tryz.func57 (by kernel_rfl) rfl #[.int .i64 t217, .int .i64 a1_5] (by rfl) rfl rfl (by (try simp only [List.map_toArray, List.map_cons, List.map_nil]); first | done | rfl | (simp only [List.length_drop, List.length_take]; rfl)) ?_
     with_reducible refine (spec_l7Fits.calls t217 a1_5 true _ A20.out).mono ?_
     rintro e w25 ⟨rfl, hb⟩
     refine ⟨_, rfl, ?_⟩
     have n0_ := Aside0.mk (blk_below (g := gb212) (o := .cells #[.slice A0_0 l0_0.length c0_0, .slice A0_1 l0_1.length c0_1] 26 (0, 0)) (by (with_reducible repeat (first | refine blk_drewN ?_ _ | refine blk_drew ?_ | refine blk_alloc ?_ _)); exact qo.out) hb)
     have n1_ := Aside0.mk (blk_below (g := gb213) (o := .cells #[.string a1_0, .int .i64 a1_1, .string a1_2, .bool a1_3, .bool a1_4, .int .i64 a1_5] 46 (0, 0)) (by (with_reducible repeat (first | refine blk_drewN ?_ _ | refine blk_drew ?_ | refine blk_alloc ?_ _)); exact qn.out) hb)
     have n2_ := Aside0.mk (below_step (by repeat (first | (with_reducible first | exact HB.out | apply below_alloc | apply pw_below_drewN | apply below_drew1 | refine below_set ?_ qm.out | refine below_set ?_ qr.out) | exact HB.out)) hb)
     clear qo
     clear qn
     clear HB
     have qo := n0_
     have qn := n1_
     have HB := n2_
     clear n0_ n1_ n2_
     (try clear hb)
     (try clear hb2)
     (try clear hk)
     (try clear hi)
     refine hK.out _ _ ⟨(blk_cell qo.out 0).trans rfl, (blk_cell qo.out 1).trans rfl, (blk_cell qn.out 0).trans rfl, (blk_cell qn.out 1).trans rfl, (blk_cell qn.out 2).trans rfl, (blk_cell qn.out 3).trans rfl, (blk_cell qn.out 4).trans rfl, (blk_cell qn.out 5).trans rfl⟩ (fun hHeld => ?_)
     clear hK K
     refine no_ 36 ?_
     refine pu_ 7 (some 37) rfl ?_
     refine pu_ 8 (some 38) rfl ?_
     refine tk_ 9 (some 39) rfl hHeld ?_
     refine on_ 10 (some 40) rfl (fun K hK => ?_)
     refine goes_ Tryz.func58 (by kernel_rfl) rfl #[.int .i64 a1_5] (by rfl) rfl rfl (by (try simp only [List.map_toArray, List.map_cons, List.map_nil]); first | done | rfl | (simp only [List.length_drop, List.length_take]; rfl)) ?_
     with_reducible refine (spec_l9Num.calls a1_5 t219 _ A22.out).mono ?_
     rintro e w' ⟨rfl, ⟨nd, rfl⟩⟩
     refine ⟨_, rfl, ?_⟩
     refine hK.out _ _ ⟨(blk_cell qo.out 0).trans rfl, (blk_cell qo.out 1).trans rfl, (blk_cell qn.out 0).trans rfl, (blk_cell qn.out 1).trans rfl, (blk_cell qn.out 2).trans rfl, (blk_cell qn.out 3).trans rfl, (blk_cell qn.out 4).trans rfl, (blk_cell qn.out 5).trans rfl⟩ (fun hHeld => ?_)
     clear hK K
     refine no_ 40 ?_
     refine pu_ 11 (some 41) rfl ?_
     refine pu_ 12 (some 4) rfl ?_
     refine done_ (done_of HT_.out (by kernel_rfl)) ?_
     try go_wp2
     go_ret
     exact ⟨by first | rfl | (simp [errW_none, errW_some] <;> rfl) | (simp [*, errW_none, errW_some] <;> rfl) | (simp only [Bool.and_eq_true, beq_iff_eq, Bool.not_eq_true', Bool.not_eq_eq_eq_not, Bool.not_true, Bool.not_false] at *; simp [*]), by repeat (first | (with_reducible first | exact HB.out | apply below_alloc | apply pw_below_drewN | apply below_drew1 | refine below_set ?_ qm.out | refine below_set ?_ qr.out) | exact HB.out)⟩
    ·replace c21 := Bool.eq_false_iff.mpr c21
     subst c21
     have H1 : (some false) = some r := by rw [if_neg (show ¬ (false = true) by decide)] at H; exact H
     clear H
     have H := H1
     clear H1
     obtain rfl := Option.some.inj H
     try go_wp2
     have n0_ := Aside0.mk (blk_drew qo.out)
     have n1_ := Aside0.mk (blk_drew qn.out)
     have n2_ := Aside0.mk (below_drew1 HB.out)
     clear qo
     clear qn
     clear HB
     have qo := n0_
     have qn := n1_
     have HB := n2_
     clear n0_ n1_ n2_
     refine start_ (n := 13) (S := fun w' => w'.cell? ⟨gb212, 0, none⟩ = some (.slice A0_0 l0_0.length c0_0) ∧ w'.cell? ⟨gb212, 1, none⟩ = some (.slice A0_1 l0_1.length c0_1) ∧ w'.cell? ⟨gb213, 0, none⟩ = some (.string a1_0) ∧ w'.cell? ⟨gb213, 1, none⟩ = some (.int .i64 a1_1) ∧ w'.cell? ⟨gb213, 2, none⟩ = some (.string a1_2) ∧ w'.cell? ⟨gb213, 3, none⟩ = some (.bool a1_3) ∧ w'.cell? ⟨gb213, 4, none⟩ = some (.bool a1_4) ∧ w'.cell? ⟨gb213, 5, none⟩ = some (.int .i64 a1_5)) (ds := []) #[false, false, false, false, false, false, false, false, false, false, false, false, false] (by kernel_rfl) rfl rfl ⟨(blk_cell qo.out 0).trans rfl, (blk_cell qo.out 1).trans rfl, (blk_cell qn.out 0).trans rfl, (blk_cell qn.out 1).trans rfl, (blk_cell qn.out 2).trans rfl, (blk_cell qn.out 3).trans rfl, (blk_cell qn.out 4).trans rfl, (blk_cell qn.out 5).trans rfl⟩ (fun hHeld => ?_); refine with_tabW spec_l9Else.tab4 spec_l9Else.bits4 (fun HT_ HW_ => ?_)
     generalize wc.drew = w26 at qo qn HB hHeld ⊢
     refine pu_ 1 (some 31) rfl ?_
     refine pu_ 4 (some 34) rfl ?_
     refine tk_ 0 (some 30) rfl hHeld ?_
     refine tk_ 2 (some 32) rfl hHeld ?_
     refine tk_ 5 (some 35) rfl hHeld ?_
     refine on_ 3 (some 33) rfl (fun K hK => ?_)
     refine goes_ Tryz.func32 (by kernel_rfl) rfl #[.agg #[.slice A0_0 l0_0.length c0_0, .slice A0_1 l0_1.length c0_1], .agg #[.string a1_2, .bool a1_3]] (by rfl) rfl rfl (by (try simp only [List.map_toArray, List.map_cons, List.map_nil]); first | done | rfl | (simp only [List.length_drop, List.length_take]; rfl)) ?_
     with_reducible refine (spec_l9Of.calls kj3 _ _ l0_0 _ _ l0_1 a1_2 a1_3 t217 _ ?side1 ?side2 ?side3 ?side4 A19.out).mono ?_
     (case side1 => repeat (first | exact (Kd.C_below HR0_0.out HB.out) | (with_reducible refine Kd.C_alloc ?_ _) | (with_reducible refine Kd.C_drewN ?_ _) | (with_reducible refine Kd.C_drew ?_)))
     (case side2 => exact HC0_0.out)
     (case side3 => repeat (first | exact (Kd.C_below HR0_1.out HB.out) | (with_reducible refine Kd.C_alloc ?_ _) | (with_reducible refine Kd.C_drewN ?_ _) | (with_reducible refine Kd.C_drew ?_)))
     (case side4 => exact HC0_1.out)
     rintro e w27 ⟨rfl, hb⟩
     refine ⟨_, rfl, ?_⟩
     have n0_ := Aside0.mk (blk_below (g := gb212) (o := .cells #[.slice A0_0 l0_0.length c0_0, .slice A0_1 l0_1.length c0_1] 26 (0, 0)) (by (with_reducible repeat (first | refine blk_drewN ?_ _ | refine blk_drew ?_ | refine blk_alloc ?_ _)); exact qo.out) hb)
     have n1_ := Aside0.mk (blk_below (g := gb213) (o := .cells #[.string a1_0, .int .i64 a1_1, .string a1_2, .bool a1_3, .bool a1_4, .int .i64 a1_5] 46 (0, 0)) (by (with_reducible repeat (first | refine blk_drewN ?_ _ | refine blk_drew ?_ | refine blk_alloc ?_ _)); exact qn.out) hb)
     have n2_ := Aside0.mk (below_step (by repeat (first | (with_reducible first | exact HB.out | apply below_alloc | apply pw_below_drewN | apply below_drew1 | refine below_set ?_ qm.out | refine below_set ?_ qr.out) | exact HB.out)) hb)
     clear qo
     clear qn
     clear HB
     have qo := n0_
     have qn := n1_
     have HB := n2_
     clear n0_ n1_ n2_
     (try clear hb)
     (try clear hb2)
     (try clear hk)
     (try clear hi)
     refine hK.out _ _ ⟨(blk_cell qo.out 0).trans rfl, (blk_cell qo.out 1).trans rfl, (blk_cell qn.out 0).trans rfl, (blk_cell qn.out 1).trans rfl, (blk_cell qn.out 2).trans rfl, (blk_cell qn.out 3).trans rfl, (blk_cell qn.out 4).trans rfl, (blk_cell qn.out 5).trans rfl⟩ (fun hHeld => ?_)
     clear hK K
     refine no_ 33 ?_
     refine on_ 6 (some 36) rfl (fun K hK => ?_)
     refine goes_ Tryz.func57 (by kernel_rfl) rfl #[.int .i64 t217, .int .i64 a1_5] (by rfl) rfl rfl (by (try simp only [List.map_toArray, List.map_cons, List.map_nil]); first | done | rfl | (simp only [List.length_drop, List.length_take]; rfl)) ?_
     with_reducible refine (spec_l7Fits.calls t217 a1_5 false _ A20.out).mono ?_
     rintro e w28 ⟨rfl, hb⟩
     refine ⟨_, rfl, ?_⟩
     have n0_ := Aside0.mk (blk_below (g := gb212) (o := .cells #[.slice A0_0 l0_0.length c0_0, .slice A0_1 l0_1.length c0_1] 26 (0, 0)) (by (with_reducible repeat (first | refine blk_drewN ?_ _ | refine blk_drew ?_ | refine blk_alloc ?_ _)); exact qo.out) hb)
     have n1_ := Aside0.mk (blk_below (g := gb213) (o := .cells #[.string a1_0, .int .i64 a1_1, .string a1_2, .bool a1_3, .bool a1_4, .int .i64 a1_5] 46 (0, 0)) (by (with_reducible repeat (first | refine blk_drewN ?_ _ | refine blk_drew ?_ | refine blk_alloc ?_ _)); exact qn.out) hb)
     have n2_ := Aside0.mk (below_step (by repeat (first | (with_reducible first | exact HB.out | apply below_alloc | apply pw_below_drewN | apply below_drew1 | refine below_set ?_ qm.out | refine below_set ?_ qr.out) | exact HB.out)) hb)
     clear qo
     clear qn
     clear HB
     have qo := n0_
     have qn := n1_
     have HB := n2_
     clear n0_ n1_ n2_
     (try clear hb)
     (try clear hb2)
     (try clear hk)
     (try clear hi)
     refine hK.out _ _ ⟨(blk_cell qo.out 0).trans rfl, (blk_cell qo.out 1).trans rfl, (blk_cell qn.out 0).trans rfl, (blk_cell qn.out 1).trans rfl, (blk_cell qn.out 2).trans rfl, (blk_cell qn.out 3).trans rfl, (blk_cell qn.out 4).trans rfl, (blk_cell qn.out 5).trans rfl⟩ (fun hHeld => ?_)
     clear hK K
     refine no_ 36 ?_
     refine pu_ 7 (some 37) rfl ?_
     refine pz_ 8 (some 38) rfl ?_
     refine pz_ 9 (some 39) rfl ?_
     refine pz_ 10 (some 40) rfl ?_
     refine pu_ 11 (some 41) rfl ?_
     refine pu_ 12 (some 4) rfl ?_
     refine done_ (done_of HT_.out (by kernel_rfl)) ?_
     try go_wp2
     go_ret
     exact ⟨by first | rfl | (simp [errW_none, errW_some] <;> rfl) | (simp [*, errW_none, errW_some] <;> rfl) | (simp only [Bool.and_eq_true, beq_iff_eq, Bool.not_eq_true', Bool.not_eq_eq_eq_not, Bool.not_true, Bool.not_false] at *; simp [*]), by repeat (first | (with_reducible first | exact HB.out | apply below_alloc | apply pw_below_drewN | apply below_drew1 | refine below_set ?_ qm.out | refine below_set ?_ qr.out) | exact HB.out)⟩

end Go.Proofs.YtjeipkfeihahdaaGreatDoor.P
