-- PRINTED by print.py (a twelfth state) out of the translation. Not trusted: Lean checks it.
import Derived.Test.YtjeipkfeihahdaaGreatDoorLibStep
import Derived.Test.YtjeipkfeihahdaaGreatDoorStubFrm
import Derived.Test.YtjeipkfeihahdaaGreatDoorPx0
import Derived.Test.YtjeipkfeihahdaaGreatDoorPx11
import Derived.Test.YtjeipkfeihahdaaGreatDoorPxB
import Derived.Test.YtjeipkfeihahdaaGreatDoorPx15
namespace Go.Proofs.YtjeipkfeihahdaaGreatDoor.P
open Go.RowKit Go.Proofs.YtjeipkfeihahdaaGreatDoorW.PrintWords Go.Proofs.YtjeipkfeihahdaaGreatDoorW.PrintLast Go.Proofs.YtjeipkfeihahdaaGreatDoorW.PrintMore
attribute [local go_sem] max2_int min2_int max_two min_two max_three min_three max_four min_four   -- for this text's walks alone
set_option linter.unusedVariables false
set_option linter.unusedSimpArgs false

/-! ### spec_IdlCheck: function 16 -/
mutual
def spec_IdlCheck.l0 : Nat → Int → List (S42) → List (S70) → Option (Int)
 | 0, _, _, _ => none
 | k + 1, x3, qu, qh => if x3 < (qu.length : Int) then (spec_IdlCheck.l1 k x3 0 qu qh) else (spec_IdlCheck.l2 k 0 qu qh)
def spec_IdlCheck.l1 : Nat → Int → Int → List (S42) → List (S70) → Option (Int)
 | 0, _, _, _, _ => none
 | k + 1, x3, x4, qu, qh => if 0 ≤ x3 then (if x3 < (qu.length : Int) then (if x4 < (((rd_T42 qu x3).f1).length : Int) then (if 0 ≤ x4 then ((spec_l9Of.f k qu qh ((rd_T46 ((rd_T42 qu x3).f1) x4).f2.f0) ((rd_T46 ((rd_T42 qu x3).f1) x4).f2.f1)).bind fun t226 => (if t226 = 0 then (some 3) else ((spec_l9Of.f k qu qh ((rd_T46 ((rd_T42 qu x3).f1) x4).f2.f0) false).bind fun t229 => (if t229 = 0 then (some 3) else (spec_IdlCheck.l1 k x3 (wrap64 (x4 + 1)) qu qh))))) else (none)) else (spec_IdlCheck.l0 k (wrap64 (x3 + 1)) qu qh)) else (none)) else (none)
def spec_IdlCheck.l2 : Nat → Int → List (S42) → List (S70) → Option (Int)
 | 0, _, _, _ => none
 | k + 1, x5, qu, qh => if x5 < (qu.length : Int) then (spec_IdlCheck.l3 k x5 0 qu qh) else (spec_IdlCheck.l4 k 0 qu qh)
def spec_IdlCheck.l3 : Nat → Int → Int → List (S42) → List (S70) → Option (Int)
 | 0, _, _, _, _ => none
 | k + 1, x5, x6, qu, qh => if 0 ≤ x5 then (if x5 < (qu.length : Int) then (if x6 < (((rd_T42 qu x5).f1).length : Int) then ((spec_l9Decl.f k ((rd_T42 qu x5).f0) ((rd_T42 qu x5).f1) x6).bind fun t232 => (if t232 < 0 then (some 4) else (spec_IdlCheck.l3 k x5 (wrap64 (x6 + 1)) qu qh))) else (spec_IdlCheck.l2 k (wrap64 (x5 + 1)) qu qh)) else (none)) else (none)
def spec_IdlCheck.l4 : Nat → Int → List (S42) → List (S70) → Option (Int)
 | 0, _, _, _ => none
 | k + 1, x7, qu, qh => if x7 < (qu.length : Int) then (spec_IdlCheck.l5 k x7 0 qu qh) else (some 0)
def spec_IdlCheck.l5 : Nat → Int → Int → List (S42) → List (S70) → Option (Int)
 | 0, _, _, _, _ => none
 | k + 1, x7, x8, qu, qh => if 0 ≤ x7 then (if x7 < (qu.length : Int) then (if x8 < (((rd_T42 qu x7).f1).length : Int) then (if 0 ≤ x8 then ((spec_l9Else.f k qu qh ((rd_T46 ((rd_T42 qu x7).f1) x8).f0) ((rd_T46 ((rd_T42 qu x7).f1) x8).f1) ((rd_T46 ((rd_T42 qu x7).f1) x8).f2.f0) ((rd_T46 ((rd_T42 qu x7).f1) x8).f2.f1) ((rd_T46 ((rd_T42 qu x7).f1) x8).f3) ((rd_T46 ((rd_T42 qu x7).f1) x8).f4)).bind fun t236 => (if t236 = true then (spec_IdlCheck.l5 k x7 (wrap64 (x8 + 1)) qu qh) else (some 5))) else (none)) else (spec_IdlCheck.l4 k (wrap64 (x7 + 1)) qu qh)) else (none)) else (none)
end
def spec_IdlCheck.f (k : Nat) (l0_0 : List (S42)) (l0_1 : List (S70)) : Option (Int) := (spec_l9Form.f l0_0 l0_1).bind fun t221 => (if t221 = true then ((spec_l9Names.f k l0_0 l0_1).bind fun t222 => (if t222 = true then (some 2) else (spec_IdlCheck.l0 k 0 l0_0 l0_1))) else (some 1))
def spec_IdlCheck.T11 : Bool × List (List Nat × List Nat) := (true, [([], []), ([], []), ([1], [1]), ([], []), ([2, 3], [2, 3]), ([4], [4]), ([5], [5]), ([], []), ([6, 7], [6, 7]), ([8], [8]), ([9], [9]), ([0, 10], [0, 10]), ([11], [11]), ([12, 11], [12]), ([13], [13]), ([13], [13]), ([15, 13], [13, 15]), ([13], [13]), ([16, 17, 13], [13, 16, 17]), ([18, 13], [13, 18]), ([19, 13], [13, 19]), ([13], [13]), ([20, 21, 13], [13, 20, 21]), ([22, 13], [13, 22]), ([23, 13], [13, 23]), ([24, 13], [13, 24]), ([25, 13], [13, 25]), ([14, 26, 13, 13], [13, 14, 26]), ([27, 13], [13, 27]), ([13, 28], [13, 28])])
def spec_IdlCheck.B11 : List Nat := [0, 0, 2, 0, 14, 30, 62, 0, 254, 510, 1022, 2047, 4095, 8191, 16383, 16383, 49151, 16383, 245759, 507903, 1032191, 16383, 4177919, 8372223, 16760831, 33538047, 67092479, 134217727, 268435455, 536870911]
theorem spec_IdlCheck.tab11 : rtab .any (opsOf Tryz.f16 11) = spec_IdlCheck.T11 := by kernel_rfl
theorem spec_IdlCheck.bits11 : waitsOk spec_IdlCheck.T11.2 spec_IdlCheck.B11 = true := by kernel_rfl
def spec_IdlCheck.T27 : Bool × List (List Nat × List Nat) := (true, [([], []), ([], []), ([1], [1]), ([], []), ([2, 3], [2, 3]), ([4], [4]), ([5], [5]), ([], []), ([6, 7], [6, 7]), ([8], [8]), ([0, 9], [0, 9]), ([10], [10])])
def spec_IdlCheck.B27 : List Nat := [0, 0, 2, 0, 14, 30, 62, 0, 254, 510, 1023, 2047]
theorem spec_IdlCheck.tab27 : rtab .any (opsOf Tryz.f16 27) = spec_IdlCheck.T27 := by kernel_rfl
theorem spec_IdlCheck.bits27 : waitsOk spec_IdlCheck.T27.2 spec_IdlCheck.B27 = true := by kernel_rfl
set_option maxHeartbeats 8000000 in
set_option maxRecDepth 100000 in
theorem spec_IdlCheck.calls (k : Nat) (A0_0 : Option Addr) (c0_0 : Nat) (l0_0 : List (S42)) (A0_1 : Option Addr) (c0_1 : Nat) (l0_1 : List (S70)) (r : Int) (w : World) (hr0_0 : Kd.C k42 w A0_0 l0_0.length l0_0) (hc0_0 : l0_0.length ≤ c0_0) (hr0_1 : Kd.C k70 w A0_1 l0_1.length l0_1) (hc0_1 : l0_1.length ≤ c0_1) (h : spec_IdlCheck.f k l0_0 l0_1 = some r) :
  Calls Tryz.prog 16 #[.agg #[.slice A0_0 l0_0.length c0_0, .slice A0_1 l0_1.length c0_1]] w fun e w' => e = .returned (.int .i64 r) ∧ Below w.heap.size w w' := by
 have hu26 := Tryz.underlying26
 have hu44 := Tryz.underlying44
 have hu42 := Tryz.underlying42
 have hu46 := Tryz.underlying46
 have HR0_0 := Aside0.mk hr0_0
 have HC0_0 := Aside0.mk hc0_0
 clear hr0_0 hc0_0
 have HR0_1 := Aside0.mk hr0_1
 have HC0_1 := Aside0.mk hc0_1
 clear hr0_1 hc0_1
 have HB := Aside0.mk (Below.refl w.heap.size w)
 have H : ((spec_l9Form.f l0_0 l0_1).bind fun t221 => (if t221 = true then ((spec_l9Names.f k l0_0 l0_1).bind fun t222 => (if t222 = true then (some 2) else (spec_IdlCheck.l0 k 0 l0_0 l0_1))) else (some 1))) = some r := h
 clear h
 replace H := Option.bind_eq_some_iff.mp H
 obtain ⟨t221, A20, H⟩ := H
 replace H : (if t221 = true then ((spec_l9Names.f k l0_0 l0_1).bind fun t222 => (if t222 = true then (some 2) else (spec_IdlCheck.l0 k 0 l0_0 l0_1))) else (some 1)) = some r := H
 have A2 := Aside0.mk A20
 clear A20
 by_cases c3 : t221 = true
 ·subst c3
  have H1 : ((spec_l9Names.f k l0_0 l0_1).bind fun t222 => (if t222 = true then (some 2) else (spec_IdlCheck.l0 k 0 l0_0 l0_1))) = some r := by rw [if_pos rfl] at H; exact H
  clear H
  have H := H1
  clear H1
  replace H := Option.bind_eq_some_iff.mp H
  obtain ⟨t222, A40, H⟩ := H
  replace H : (if t222 = true then (some 2) else (spec_IdlCheck.l0 k 0 l0_0 l0_1)) = some r := H
  have A4 := Aside0.mk A40
  clear A40
  by_cases c5 : t222 = true
  ·subst c5
   have H1 : (some 2) = some r := by rw [if_pos rfl] at H; exact H
   clear H
   have H := H1
   clear H1
   obtain rfl := Option.some.inj H
   go_enter Tryz.func16, Tryz.ntmps16
   go_wp2_with (first | ((with_reducible refine gate_dst (N := 1) rfl ?_); refine box_event ?hg (N := 1) ?hd (cs := #[.slice A0_0 l0_0.length c0_0, .slice A0_1 l0_1.length c0_1]) (t := 26) ?hr ?_; (case hd => rfl); (case hg => rfl); (case hr => first | (go_simp; done) | (go_simp; rfl)); intro gb220 hg w6 hbox hb; have n0_ := Aside0.mk (below_step (by repeat (first | (with_reducible first | exact HB.out | apply below_alloc | apply pw_below_drewN | apply below_drew1) | exact HB.out)) hb); have n1_ := Aside0.mk (hbox); have n2_ := Aside0.mk ((by rw [hg]; exact (below_size (by repeat (first | (with_reducible first | exact HB.out | apply below_alloc | apply pw_below_drewN | apply below_drew1) | exact HB.out))) : w.heap.size ≤ gb220)); have n3_ := Aside0.mk ((by rw [hg]; exact (below_size (by repeat (first | (with_reducible first | exact HB.out | apply below_alloc | apply pw_below_drewN | apply below_drew1) | exact HB.out))) : w.heap.size ≤ gb220)); clear HB; have HB := n0_; have qk1 := n1_; have qi1 := n2_; have qj1 := n3_; clear n0_ n1_ n2_ n3_; clear hb hbox hg; have hcz7_0 : w6.cell? ⟨gb220, 0, none⟩ = some (.slice A0_0 l0_0.length c0_0) := (blk_cell qk1.out 0).trans rfl; have hcz7_1 : w6.cell? ⟨gb220, 1, none⟩ = some (.slice A0_1 l0_1.length c0_1) := (blk_cell qk1.out 1).trans rfl; have hfz7_0 := blk_frozen qk1.out 0; have hfz7_1 := blk_frozen qk1.out 1) | ((with_reducible refine gate_callee (f := 30) rfl ?_); refine goesL_ (some 10) rfl rfl Tryz.func30 (by kernel_rfl) rfl #[.agg #[.slice A0_0 l0_0.length c0_0, .slice A0_1 l0_1.length c0_1]] rfl (by (try simp only [List.map_toArray, List.map_cons, List.map_nil]); first | done | rfl | (simp only [List.length_drop, List.length_take]; rfl)) ?_; (with_reducible refine (spec_l9Form.calls _ _ l0_0 _ _ l0_1 true _ ?side1 ?side2 ?side3 ?side4 A2.out).mono ?_); (case side1 => repeat (first | exact (Kd.C_below HR0_0.out HB.out) | (with_reducible refine Kd.C_alloc ?_ _) | (with_reducible refine Kd.C_drewN ?_ _) | (with_reducible refine Kd.C_drew ?_))); (case side2 => exact HC0_0.out); (case side3 => repeat (first | exact (Kd.C_below HR0_1.out HB.out) | (with_reducible refine Kd.C_alloc ?_ _) | (with_reducible refine Kd.C_drewN ?_ _) | (with_reducible refine Kd.C_drew ?_))); (case side4 => exact HC0_1.out); rintro e w8 ⟨rfl, hb⟩; refine ⟨_, rfl, ?_⟩; have n0_ := Aside0.mk (blk_below (g := gb220) (o := .cells #[.slice A0_0 l0_0.length c0_0, .slice A0_1 l0_1.length c0_1] 26 (0, 0)) (by (with_reducible repeat (first | refine blk_drewN ?_ _ | refine blk_drew ?_ | refine blk_alloc ?_ _)); exact qk1.out) hb); have n1_ := Aside0.mk (below_step (by repeat (first | (with_reducible first | exact HB.out | apply below_alloc | apply pw_below_drewN | apply below_drew1 | refine below_set ?_ qj1.out) | exact HB.out)) hb); clear qk1; clear HB; have qk1 := n0_; have HB := n1_; clear n0_ n1_; (try clear hb); (try clear hb2); (try clear hk); (try clear hi); have hcz9_0 : w8.cell? ⟨gb220, 0, none⟩ = some (.slice A0_0 l0_0.length c0_0) := (blk_cell qk1.out 0).trans rfl; have hcz9_1 : w8.cell? ⟨gb220, 1, none⟩ = some (.slice A0_1 l0_1.length c0_1) := (blk_cell qk1.out 1).trans rfl; have hfz9_0 := blk_frozen qk1.out 0; have hfz9_1 := blk_frozen qk1.out 1) | ((with_reducible refine gate_callee (f := 31) rfl ?_); refine goesL_ (some 13) rfl rfl Tryz.func31 (by kernel_rfl) rfl #[.agg #[.slice A0_0 l0_0.length c0_0, .slice A0_1 l0_1.length c0_1]] rfl (by (try simp only [List.map_toArray, List.map_cons, List.map_nil]); first | done | rfl | (simp only [List.length_drop, List.length_take]; rfl)) ?_; (with_reducible refine (spec_l9Names.calls k _ _ l0_0 _ _ l0_1 true _ ?side1 ?side2 ?side3 ?side4 A4.out).mono ?_); (case side1 => repeat (first | exact (Kd.C_below HR0_0.out HB.out) | (with_reducible refine Kd.C_alloc ?_ _) | (with_reducible refine Kd.C_drewN ?_ _) | (with_reducible refine Kd.C_drew ?_))); (case side2 => exact HC0_0.out); (case side3 => repeat (first | exact (Kd.C_below HR0_1.out HB.out) | (with_reducible refine Kd.C_alloc ?_ _) | (with_reducible refine Kd.C_drewN ?_ _) | (with_reducible refine Kd.C_drew ?_))); (case side4 => exact HC0_1.out); rintro e w10 ⟨rfl, hb⟩; refine ⟨_, rfl, ?_⟩; have n0_ := Aside0.mk (blk_below (g := gb220) (o := .cells #[.slice A0_0 l0_0.length c0_0, .slice A0_1 l0_1.length c0_1] 26 (0, 0)) (by (with_reducible repeat (first | refine blk_drewN ?_ _ | refine blk_drew ?_ | refine blk_alloc ?_ _)); exact qk1.out) hb); have n1_ := Aside0.mk (below_step (by repeat (first | (with_reducible first | exact HB.out | apply below_alloc | apply pw_below_drewN | apply below_drew1 | refine below_set ?_ qj1.out) | exact HB.out)) hb); clear qk1; clear HB; have qk1 := n0_; have HB := n1_; clear n0_ n1_; (try clear hb); (try clear hb2); (try clear hk); (try clear hi)))
   go_ret
   exact ⟨by first | rfl | (simp [errW_none, errW_some] <;> rfl) | (simp [*, errW_none, errW_some] <;> rfl) | (simp only [Bool.and_eq_true, beq_iff_eq, Bool.not_eq_true', Bool.not_eq_eq_eq_not, Bool.not_true, Bool.not_false] at *; simp [*]), by repeat (first | (with_reducible first | exact HB.out | apply below_alloc | apply pw_below_drewN | apply below_drew1 | refine below_set ?_ qj1.out) | exact HB.out)⟩
  ·replace c5 := Bool.eq_false_iff.mpr c5
   subst c5
   have H1 : (spec_IdlCheck.l0 k 0 l0_0 l0_1) = some r := by rw [if_neg (show ¬ (false = true) by decide)] at H; exact H
   clear H
   have H := H1
   clear H1
   have H' := Aside0.mk H
   clear H
   go_enter Tryz.func16, Tryz.ntmps16
   go_wp2_with (first | ((with_reducible refine gate_dst (N := 1) rfl ?_); refine box_event ?hg (N := 1) ?hd (cs := #[.slice A0_0 l0_0.length c0_0, .slice A0_1 l0_1.length c0_1]) (t := 26) ?hr ?_; (case hd => rfl); (case hg => rfl); (case hr => first | (go_simp; done) | (go_simp; rfl)); intro gb220 hg w11 hbox hb; have n0_ := Aside0.mk (below_step (by repeat (first | (with_reducible first | exact HB.out | apply below_alloc | apply pw_below_drewN | apply below_drew1) | exact HB.out)) hb); have n1_ := Aside0.mk (hbox); have n2_ := Aside0.mk ((by rw [hg]; exact (below_size (by repeat (first | (with_reducible first | exact HB.out | apply below_alloc | apply pw_below_drewN | apply below_drew1) | exact HB.out))) : w.heap.size ≤ gb220)); have n3_ := Aside0.mk ((by rw [hg]; exact (below_size (by repeat (first | (with_reducible first | exact HB.out | apply below_alloc | apply pw_below_drewN | apply below_drew1) | exact HB.out))) : w.heap.size ≤ gb220)); clear HB; have HB := n0_; have qk1 := n1_; have qi1 := n2_; have qj1 := n3_; clear n0_ n1_ n2_ n3_; clear hb hbox hg; have hcz12_0 : w11.cell? ⟨gb220, 0, none⟩ = some (.slice A0_0 l0_0.length c0_0) := (blk_cell qk1.out 0).trans rfl; have hcz12_1 : w11.cell? ⟨gb220, 1, none⟩ = some (.slice A0_1 l0_1.length c0_1) := (blk_cell qk1.out 1).trans rfl; have hfz12_0 := blk_frozen qk1.out 0; have hfz12_1 := blk_frozen qk1.out 1) | ((with_reducible refine gate_callee (f := 30) rfl ?_); refine goesL_ (some 10) rfl rfl Tryz.func30 (by kernel_rfl) rfl #[.agg #[.slice A0_0 l0_0.length c0_0, .slice A0_1 l0_1.length c0_1]] rfl (by (try simp only [List.map_toArray, List.map_cons, List.map_nil]); first | done | rfl | (simp only [List.length_drop, List.length_take]; rfl)) ?_; (with_reducible refine (spec_l9Form.calls _ _ l0_0 _ _ l0_1 true _ ?side1 ?side2 ?side3 ?side4 A2.out).mono ?_); (case side1 => repeat (first | exact (Kd.C_below HR0_0.out HB.out) | (with_reducible refine Kd.C_alloc ?_ _) | (with_reducible refine Kd.C_drewN ?_ _) | (with_reducible refine Kd.C_drew ?_))); (case side2 => exact HC0_0.out); (case side3 => repeat (first | exact (Kd.C_below HR0_1.out HB.out) | (with_reducible refine Kd.C_alloc ?_ _) | (with_reducible refine Kd.C_drewN ?_ _) | (with_reducible refine Kd.C_drew ?_))); (case side4 => exact HC0_1.out); rintro e w13 ⟨rfl, hb⟩; refine ⟨_, rfl, ?_⟩; have n0_ := Aside0.mk (blk_below (g := gb220) (o := .cells #[.slice A0_0 l0_0.length c0_0, .slice A0_1 l0_1.length c0_1] 26 (0, 0)) (by (with_reducible repeat (first | refine blk_drewN ?_ _ | refine blk_drew ?_ | refine blk_alloc ?_ _)); exact qk1.out) hb); have n1_ := Aside0.mk (below_step (by repeat (first | (with_reducible first | exact HB.out | apply below_alloc | apply pw_below_drewN | apply below_drew1 | refine below_set ?_ qj1.out) | exact HB.out)) hb); clear qk1; clear HB; have qk1 := n0_; have HB := n1_; clear n0_ n1_; (try clear hb); (try clear hb2); (try clear hk); (try clear hi); have hcz14_0 : w13.cell? ⟨gb220, 0, none⟩ = some (.slice A0_0 l0_0.length c0_0) := (blk_cell qk1.out 0).trans rfl; have hcz14_1 : w13.cell? ⟨gb220, 1, none⟩ = some (.slice A0_1 l0_1.length c0_1) := (blk_cell qk1.out 1).trans rfl; have hfz14_0 := blk_frozen qk1.out 0; have hfz14_1 := blk_frozen qk1.out 1) | ((with_reducible refine gate_callee (f := 31) rfl ?_); refine goesL_ (some 13) rfl rfl Tryz.func31 (by kernel_rfl) rfl #[.agg #[.slice A0_0 l0_0.length c0_0, .slice A0_1 l0_1.length c0_1]] rfl (by (try simp only [List.map_toArray, List.map_cons, List.map_nil]); first | done | rfl | (simp only [List.length_drop, List.length_take]; rfl)) ?_; (with_reducible refine (spec_l9Names.calls k _ _ l0_0 _ _ l0_1 false _ ?side1 ?side2 ?side3 ?side4 A4.out).mono ?_); (case side1 => repeat (first | exact (Kd.C_below HR0_0.out HB.out) | (with_reducible refine Kd.C_alloc ?_ _) | (with_reducible refine Kd.C_drewN ?_ _) | (with_reducible refine Kd.C_drew ?_))); (case side2 => exact HC0_0.out); (case side3 => repeat (first | exact (Kd.C_below HR0_1.out HB.out) | (with_reducible refine Kd.C_alloc ?_ _) | (with_reducible refine Kd.C_drewN ?_ _) | (with_reducible refine Kd.C_drew ?_))); (case side4 => exact HC0_1.out); rintro e w15 ⟨rfl, hb⟩; refine ⟨_, rfl, ?_⟩; have n0_ := Aside0.mk (blk_below (g := gb220) (o := .cells #[.slice A0_0 l0_0.length c0_0, .slice A0_1 l0_1.length c0_1] 26 (0, 0)) (by (with_reducible repeat (first | refine blk_drewN ?_ _ | refine blk_drew ?_ | refine blk_alloc ?_ _)); exact qk1.out) hb); have n1_ := Aside0.mk (below_step (by repeat (first | (with_reducible first | exact HB.out | apply below_alloc | apply pw_below_drewN | apply below_drew1 | refine below_set ?_ qj1.out) | exact HB.out)) hb); clear qk1; clear HB; have qk1 := n0_; have HB := n1_; clear n0_ n1_; (try clear hb); (try clear hb2); (try clear hk); (try clear hi)))
   go_loopg [3] k (fun kq v3 w' => ∃ (x3_1 : Int), v3 = .int .i64 x3_1 ∧ Aside0 (spec_IdlCheck.l0 kq x3_1 l0_0 l0_1 = some r) ∧ Aside0 (kq ≤ k) ∧ Aside0 (w'.heap[gb220]? = some (.cells #[(.slice A0_0 l0_0.length c0_0), (.slice A0_1 l0_1.length c0_1)] 26 (0, 0))) ∧ Aside0 (Below w.heap.size w w'))
   case atStart => exact ⟨(0), (by first | rfl | (simp; done) | (simp [*]; done)), H', ⟨Nat.le_refl _⟩, ⟨by (with_reducible repeat (first | refine blk_drewN ?_ _ | refine blk_drew ?_ | refine blk_alloc ?_ _)); exact qk1.out⟩, ⟨by repeat (first | (with_reducible first | exact HB.out | apply below_alloc | apply pw_below_drewN | apply below_drew1 | refine below_set ?_ qj1.out) | exact HB.out)⟩⟩
   case round =>
    clear H'
    try clear c1
    try clear p2
    try clear c3
    try clear c5
    try clear hcz12_0
    try clear hcz12_1
    try clear hcz14_0
    try clear hcz14_1
    try clear hcz7_0
    try clear hcz7_1
    try clear hcz9_0
    try clear hcz9_1
    try clear hfz12_0
    try clear hfz12_1
    try clear hfz14_0
    try clear hfz14_1
    try clear hfz7_0
    try clear hfz7_1
    try clear hfz9_0
    try clear hfz9_1
    obtain ⟨x3_1, rfl, HA, HK1, qk1, HB⟩ := hrel
    cases gk with
    | zero => exact absurd HA.out (by simp [spec_IdlCheck.l0])
    | succ k1 =>
     have H := HA.out
     clear HA
     simp only [spec_IdlCheck.l0] at H
     by_cases c16 : x3_1 < (l0_0.length : Int)
     ·rw [if_pos c16] at H
      have c16b0 : decide (x3_1 < (l0_0.length : Int)) = true := decide_eq_true c16
      clear c16
      have H' := Aside0.mk H
      clear H
      have hcz17_0 : wr.cell? ⟨gb220, 0, none⟩ = some (.slice A0_0 l0_0.length c0_0) := (blk_cell qk1.out 0).trans rfl
      have hcz17_1 : wr.cell? ⟨gb220, 1, none⟩ = some (.slice A0_1 l0_1.length c0_1) := (blk_cell qk1.out 1).trans rfl
      have hfz17_0 := blk_frozen qk1.out 0
      have hfz17_1 := blk_frozen qk1.out 1
      go_wp2
      go_loopg [4] k1 (fun kq v4 w' => ∃ (x4_2 : Int), v4 = .int .i64 x4_2 ∧ Aside0 (spec_IdlCheck.l1 kq x3_1 x4_2 l0_0 l0_1 = some r) ∧ Aside0 (kq ≤ k1) ∧ Aside0 (w'.heap[gb220]? = some (.cells #[(.slice A0_0 l0_0.length c0_0), (.slice A0_1 l0_1.length c0_1)] 26 (0, 0))) ∧ Aside0 (Below w.heap.size w w'))
      case atStart => exact ⟨(0), (by first | rfl | (simp; done) | (simp [*]; done)), H', ⟨Nat.le_refl _⟩, ⟨by (with_reducible repeat (first | refine blk_drewN ?_ _ | refine blk_drew ?_ | refine blk_alloc ?_ _)); exact qk1.out⟩, ⟨by repeat (first | (with_reducible first | exact HB.out | apply below_alloc | apply pw_below_drewN | apply below_drew1 | refine below_set ?_ qj1.out) | exact HB.out)⟩⟩
      case round =>
       clear H'
       try clear c1
       try clear p2
       try clear c3
       try clear c5
       try clear c16
       try clear c16b0
       try clear hcz12_0
       try clear hcz12_1
       try clear hcz14_0
       try clear hcz14_1
       try clear hcz17_0
       try clear hcz17_1
       try clear hcz7_0
       try clear hcz7_1
       try clear hcz9_0
       try clear hcz9_1
       try clear hfz12_0
       try clear hfz12_1
       try clear hfz14_0
       try clear hfz14_1
       try clear hfz17_0
       try clear hfz17_1
       try clear hfz7_0
       try clear hfz7_1
       try clear hfz9_0
       try clear hfz9_1
       try clear p2
       obtain ⟨x4_2, rfl, HA, HK2, qk1, HB⟩ := hrel
       cases gk with
       | zero => exact absurd HA.out (by simp [spec_IdlCheck.l1])
       | succ k2 =>
        have H := HA.out
        clear HA
        simp only [spec_IdlCheck.l1] at H
        by_cases c18 : 0 ≤ x3_1
        ·rw [if_pos c18] at H
         have c18b0 : decide (0 ≤ x3_1) = true := decide_eq_true c18
         clear c18
         by_cases c19 : x3_1 < (l0_0.length : Int)
         ·rw [if_pos c19] at H
          have c19b0 : decide (x3_1 < (l0_0.length : Int)) = true := decide_eq_true c19
          clear c19
          by_cases c20 : x4_2 < (((rd_T42 l0_0 x3_1).f1).length : Int)
          ·rw [if_pos c20] at H
           have c20b0 : decide (x4_2 < (((rd_T42 l0_0 x3_1).f1).length : Int)) = true := decide_eq_true c20
           clear c20
           by_cases c21 : 0 ≤ x4_2
           ·rw [if_pos c21] at H
            have c21b0 : decide (0 ≤ x4_2) = true := decide_eq_true c21
            clear c21
            replace H := Option.bind_eq_some_iff.mp H
            obtain ⟨t226, A220, H⟩ := H
            replace H : (if t226 = 0 then (some 3) else ((spec_l9Of.f k2 l0_0 l0_1 ((rd_T46 ((rd_T42 l0_0 x3_1).f1) x4_2).f2.f0) false).bind fun t229 => (if t229 = 0 then (some 3) else (spec_IdlCheck.l1 k2 x3_1 (wrap64 (x4_2 + 1)) l0_0 l0_1)))) = some r := H
            have A22 := Aside0.mk A220
            clear A220
            by_cases c23 : t226 = 0
            ·rw [if_pos c23] at H
             have c23b0 : (t226 == 0) = true := beq_iff_eq.mpr c23
             have c23b1 : (t226 != 0) = false := bne_eq_false_iff_eq.mpr c23
             clear c23
             obtain rfl := Option.some.inj H
             have hcz24_0 : wr.cell? ⟨gb220, 0, none⟩ = some (.slice A0_0 l0_0.length c0_0) := (blk_cell qk1.out 0).trans rfl
             have hcz24_1 : wr.cell? ⟨gb220, 1, none⟩ = some (.slice A0_1 l0_1.length c0_1) := (blk_cell qk1.out 1).trans rfl
             have hfz24_0 := blk_frozen qk1.out 0
             have hfz24_1 := blk_frozen qk1.out 1
             have p223 : 0 ≤ (x3_1 : Int) := of_decide_eq_true (by assumption)
             have q223 : x3_1 < (l0_0.length : Int) := of_decide_eq_true (by assumption)
             obtain ⟨ad223, A223_1, c223_1, e223, qi, qg, hl223_1, hi223_1⟩ := at_T42 HR0_0.out x3_1 p223 q223
             cases e223
             replace qi := pw_cell_below HB.out qi
             replace qg := pw_cell_below HB.out qg
             have HR223_1 := Aside0.mk hi223_1
             have HC223_1 := Aside0.mk hl223_1
             clear hi223_1 hl223_1
             replace p223 := eq_true p223
             replace q223 := eq_true q223
             try go_wp2
             have n0_ := Aside0.mk (blk_drew qk1.out)
             have n1_ := Aside0.mk (below_drew1 HB.out)
             clear qk1
             clear HB
             have qk1 := n0_
             have HB := n1_
             clear n0_ n1_
             have p224 : 0 ≤ (x3_1 : Int) := of_decide_eq_true (by assumption)
             have q224 : x3_1 < (l0_0.length : Int) := of_decide_eq_true (by assumption)
             obtain ⟨ad224, A224_1, c224_1, e224, qd, qr, hl224_1, hi224_1⟩ := at_T42 HR0_0.out x3_1 p224 q224
             have hw224_1 := qr
             have hw224_0 := qd
             obtain rfl : ad223 = ad224 := (by injection e224)
             replace qd := pw_cell_below HB.out qd
             replace qr := pw_cell_below HB.out qr
             have HR224_1 := Aside0.mk hi224_1
             have HC224_1 := Aside0.mk hl224_1
             clear hi224_1 hl224_1
             replace p224 := eq_true p224
             replace q224 := eq_true q224
             have p225 : 0 ≤ (x4_2 : Int) := of_decide_eq_true (by assumption)
             have q225 : x4_2 < (((rd_T42 l0_0 x3_1).f1).length : Int) := of_decide_eq_true (by assumption)
             obtain ⟨ad225, e225, qa, qy, qb, qm, qn, qg1⟩ := at_T46 HR224_1.out x4_2 p225 q225
             have hw225_5 := qg1
             have hw225_4 := qn
             have hw225_3 := qm
             have hw225_2 := qb
             have hw225_1 := qy
             have hw225_0 := qa
             cases e225
             replace qa := pw_cell_below HB.out qa
             replace qy := pw_cell_below HB.out qy
             replace qb := pw_cell_below HB.out qb
             replace qm := pw_cell_below HB.out qm
             replace qn := pw_cell_below HB.out qn
             replace qg1 := pw_cell_below HB.out qg1
             replace p225 := eq_true p225
             replace q225 := eq_true q225
             refine start_ (n := 30) (S := fun w' => w'.cell? ⟨gb220, 0, none⟩ = some (.slice (some ad223) l0_0.length c0_0) ∧ w'.cell? ⟨gb220, 1, none⟩ = some (.slice A0_1 l0_1.length c0_1) ∧ w'.cell? (ad223.add ((x3_1).toNat * 2)) = some (.string ((rd_T42 l0_0 x3_1).f0)) ∧ w'.cell? ⟨(ad223.add ((x3_1).toNat * 2)).block, (ad223.add ((x3_1).toNat * 2)).off + 1, none⟩ = some (.slice (some ad225) ((rd_T42 l0_0 x3_1).f1).length c224_1) ∧ w'.cell? (ad225.add ((x4_2).toNat * 6)) = some (.string ((rd_T46 ((rd_T42 l0_0 x3_1).f1) x4_2).f0)) ∧ w'.cell? ⟨(ad225.add ((x4_2).toNat * 6)).block, (ad225.add ((x4_2).toNat * 6)).off + 1, none⟩ = some (.int .i64 ((rd_T46 ((rd_T42 l0_0 x3_1).f1) x4_2).f1)) ∧ w'.cell? ⟨(ad225.add ((x4_2).toNat * 6)).block, (ad225.add ((x4_2).toNat * 6)).off + 2, none⟩ = some (.string ((rd_T46 ((rd_T42 l0_0 x3_1).f1) x4_2).f2.f0)) ∧ w'.cell? ⟨(ad225.add ((x4_2).toNat * 6)).block, (ad225.add ((x4_2).toNat * 6)).off + 3, none⟩ = some (.bool ((rd_T46 ((rd_T42 l0_0 x3_1).f1) x4_2).f2.f1)) ∧ w'.cell? ⟨(ad225.add ((x4_2).toNat * 6)).block, (ad225.add ((x4_2).toNat * 6)).off + 4, none⟩ = some (.bool ((rd_T46 ((rd_T42 l0_0 x3_1).f1) x4_2).f3)) ∧ w'.cell? ⟨(ad225.add ((x4_2).toNat * 6)).block, (ad225.add ((x4_2).toNat * 6)).off + 5, none⟩ = some (.int .i64 ((rd_T46 ((rd_T42 l0_0 x3_1).f1) x4_2).f4))) (ds := []) #[false, false, false, false, false, false, false, false, false, false, false, false, false, false, false, false, false, false, false, false, false, false, false, false, false, false, false, false, false, false] (by kernel_rfl) rfl rfl ⟨(blk_cell qk1.out 0).trans rfl, (blk_cell qk1.out 1).trans rfl, (pw_cell_below HB.out hw224_0), (pw_cell_below HB.out hw224_1), (pw_cell_below HB.out hw225_0), (pw_cell_below HB.out hw225_1), (pw_cell_below HB.out hw225_2), (pw_cell_below HB.out hw225_3), (pw_cell_below HB.out hw225_4), (pw_cell_below HB.out hw225_5)⟩ (fun hHeld => ?_); refine with_tabW spec_IdlCheck.tab11 spec_IdlCheck.bits11 (fun HT_ HW_ => ?_)
             generalize wr.drew = w25 at qk1 HB HR224_1 qd qr qa qy qb qm qn qg1 hHeld ⊢
             refine pu_ 1 (some 33) rfl ?_
             refine pu_ 3 (some 35) rfl ?_
             refine pu_ 7 (some 39) rfl ?_
             refine tk_ 0 (some 32) rfl hHeld ?_
             refine tk_ 2 (some 34) rfl hHeld ?_
             refine pu_ 4 (some 36) rfl ?_
             refine pu_ 5 (some 37) rfl ?_
             refine tk_ 6 (some 38) rfl hHeld ?_
             refine pu_ 8 (some 40) rfl ?_
             refine pu_ 9 (some 41) rfl ?_
             refine tk_ 10 (some 42) rfl hHeld ?_
             refine on_ 11 (some 43) rfl (fun K hK => ?_)
             refine goes_ Tryz.func32 (by kernel_rfl) rfl #[.agg #[.slice (some ad223) l0_0.length c0_0, .slice A0_1 l0_1.length c0_1], .agg #[.string ((rd_T46 ((rd_T42 l0_0 x3_1).f1) x4_2).f2.f0), .bool ((rd_T46 ((rd_T42 l0_0 x3_1).f1) x4_2).f2.f1)]] (by rfl) rfl rfl (by (try simp only [List.map_toArray, List.map_cons, List.map_nil]); first | done | rfl | (simp only [List.length_drop, List.length_take]; rfl)) ?_
             with_reducible refine (spec_l9Of.calls k2 _ _ l0_0 _ _ l0_1 ((rd_T46 ((rd_T42 l0_0 x3_1).f1) x4_2).f2.f0) ((rd_T46 ((rd_T42 l0_0 x3_1).f1) x4_2).f2.f1) t226 _ ?side1 ?side2 ?side3 ?side4 A22.out).mono ?_
             (case side1 => repeat (first | exact (Kd.C_below HR0_0.out HB.out) | (with_reducible refine Kd.C_alloc ?_ _) | (with_reducible refine Kd.C_drewN ?_ _) | (with_reducible refine Kd.C_drew ?_)))
             (case side2 => exact HC0_0.out)
             (case side3 => repeat (first | exact (Kd.C_below HR0_1.out HB.out) | (with_reducible refine Kd.C_alloc ?_ _) | (with_reducible refine Kd.C_drewN ?_ _) | (with_reducible refine Kd.C_drew ?_)))
             (case side4 => exact HC0_1.out)
             rintro e w26 ⟨rfl, hb⟩
             refine ⟨_, rfl, ?_⟩
             have n0_ := Aside0.mk (blk_below (g := gb220) (o := .cells #[.slice (some ad223) l0_0.length c0_0, .slice A0_1 l0_1.length c0_1] 26 (0, 0)) (by (with_reducible repeat (first | refine blk_drewN ?_ _ | refine blk_drew ?_ | refine blk_alloc ?_ _)); exact qk1.out) hb)
             have n1_ := Aside0.mk (below_step (by repeat (first | (with_reducible first | exact HB.out | apply below_alloc | apply pw_below_drewN | apply below_drew1 | refine below_set ?_ qj1.out) | exact HB.out)) hb)
             clear qk1
             clear HB
             have qk1 := n0_
             have HB := n1_
             clear n0_ n1_
             (try clear hb)
             (try clear hb2)
             (try clear hk)
             (try clear hi)
             refine hK.out _ _ ⟨(blk_cell qk1.out 0).trans rfl, (blk_cell qk1.out 1).trans rfl, (pw_cell_below HB.out hw224_0), (pw_cell_below HB.out hw224_1), (pw_cell_below HB.out hw225_0), (pw_cell_below HB.out hw225_1), (pw_cell_below HB.out hw225_2), (pw_cell_below HB.out hw225_3), (pw_cell_below HB.out hw225_4), (pw_cell_below HB.out hw225_5)⟩ (fun hHeld => ?_)
             clear hK K
             refine no_ 43 ?_
             refine pu_ 12 (some 44) rfl ?_
             refine pu_ 13 (some 45) rfl ?_
             refine pz_ 14 (some 46) rfl ?_
             refine pz_ 15 (some 47) rfl ?_
             refine pz_ 16 (some 48) rfl ?_
             refine pz_ 17 (some 49) rfl ?_
             refine pz_ 18 (some 50) rfl ?_
             refine pz_ 19 (some 51) rfl ?_
             refine pz_ 20 (some 52) rfl ?_
             refine pz_ 21 (some 53) rfl ?_
             refine pz_ 22 (some 54) rfl ?_
             refine pz_ 23 (some 55) rfl ?_
             refine pz_ 24 (some 56) rfl ?_
             refine pz_ 25 (some 57) rfl ?_
             refine pz_ 26 (some 58) rfl ?_
             refine pz_ 27 (some 59) rfl ?_
             refine pz_ 28 (some 60) rfl ?_
             refine pu_ 29 (some 61) rfl ?_
             refine done_ (done_of HT_.out (by kernel_rfl)) ?_
             try go_wp2
             go_ret
             exact ⟨by first | rfl | (simp [errW_none, errW_some] <;> rfl) | (simp [*, errW_none, errW_some] <;> rfl) | (simp only [Bool.and_eq_true, beq_iff_eq, Bool.not_eq_true', Bool.not_eq_eq_eq_not, Bool.not_true, Bool.not_false] at *; simp [*]), by repeat (first | (with_reducible first | exact HB.out | apply below_alloc | apply pw_below_drewN | apply below_drew1 | refine below_set ?_ qj1.out) | exact HB.out)⟩
            ·rw [if_neg c23] at H
             have c23b0 : (t226 == 0) = false := beq_eq_false_iff_ne.mpr c23
             have c23b1 : (t226 != 0) = true := bne_iff_ne.mpr c23
             replace H := Option.bind_eq_some_iff.mp H
             obtain ⟨t229, A270, H⟩ := H
             replace H : (if t229 = 0 then (some 3) else (spec_IdlCheck.l1 k2 x3_1 (wrap64 (x4_2 + 1)) l0_0 l0_1)) = some r := H
             have A27 := Aside0.mk A270
             clear A270
             by_cases c28 : t229 = 0
             ·rw [if_pos c28] at H
              have c28b0 : (t229 == 0) = true := beq_iff_eq.mpr c28
              have c28b1 : (t229 != 0) = false := bne_eq_false_iff_eq.mpr c28
              clear c28
              obtain rfl := Option.some.inj H
              have hcz29_0 : wr.cell? ⟨gb220, 0, none⟩ = some (.slice A0_0 l0_0.length c0_0) := (blk_cell qk1.out 0).trans rfl
              have hcz29_1 : wr.cell? ⟨gb220, 1, none⟩ = some (.slice A0_1 l0_1.length c0_1) := (blk_cell qk1.out 1).trans rfl
              have hfz29_0 := blk_frozen qk1.out 0
              have hfz29_1 := blk_frozen qk1.out 1
              have p223 : 0 ≤ (x3_1 : Int) := of_decide_eq_true (by assumption)
              have q223 : x3_1 < (l0_0.length : Int) := of_decide_eq_true (by assumption)
              obtain ⟨ad223, A223_1, c223_1, e223, qi, qg, hl223_1, hi223_1⟩ := at_T42 HR0_0.out x3_1 p223 q223
              cases e223
              replace qi := pw_cell_below HB.out qi
              replace qg := pw_cell_below HB.out qg
              have HR223_1 := Aside0.mk hi223_1
              have HC223_1 := Aside0.mk hl223_1
              clear hi223_1 hl223_1
              replace p223 := eq_true p223
              replace q223 := eq_true q223
              try go_wp2
              have n0_ := Aside0.mk (blk_drew qk1.out)
              have n1_ := Aside0.mk (below_drew1 HB.out)
              clear qk1
              clear HB
              have qk1 := n0_
              have HB := n1_
              clear n0_ n1_
              have p224 : 0 ≤ (x3_1 : Int) := of_decide_eq_true (by assumption)
              have q224 : x3_1 < (l0_0.length : Int) := of_decide_eq_true (by assumption)
              obtain ⟨ad224, A224_1, c224_1, e224, qd, qr, hl224_1, hi224_1⟩ := at_T42 HR0_0.out x3_1 p224 q224
              have hw224_1 := qr
              have hw224_0 := qd
              obtain rfl : ad223 = ad224 := (by injection e224)
              replace qd := pw_cell_below HB.out qd
              replace qr := pw_cell_below HB.out qr
              have HR224_1 := Aside0.mk hi224_1
              have HC224_1 := Aside0.mk hl224_1
              clear hi224_1 hl224_1
              replace p224 := eq_true p224
              replace q224 := eq_true q224
              have p225 : 0 ≤ (x4_2 : Int) := of_decide_eq_true (by assumption)
              have q225 : x4_2 < (((rd_T42 l0_0 x3_1).f1).length : Int) := of_decide_eq_true (by assumption)
              obtain ⟨ad225, e225, qa, qy, qb, qm, qn, qg1⟩ := at_T46 HR224_1.out x4_2 p225 q225
              have hw225_5 := qg1
              have hw225_4 := qn
              have hw225_3 := qm
              have hw225_2 := qb
              have hw225_1 := qy
              have hw225_0 := qa
              cases e225
              replace qa := pw_cell_below HB.out qa
              replace qy := pw_cell_below HB.out qy
              replace qb := pw_cell_below HB.out qb
              replace qm := pw_cell_below HB.out qm
              replace qn := pw_cell_below HB.out qn
              replace qg1 := pw_cell_below HB.out qg1
              replace p225 := eq_true p225
              replace q225 := eq_true q225
              have p227 : 0 ≤ (x3_1 : Int) := of_decide_eq_true (by assumption)
              have q227 : x3_1 < (l0_0.length : Int) := of_decide_eq_true (by assumption)
              obtain ⟨ad227, A227_1, c227_1, e227, qb1, qa1, hl227_1, hi227_1⟩ := at_T42 HR0_0.out x3_1 p227 q227
              have hw227_1 := qa1
              have hw227_0 := qb1
              obtain rfl : ad223 = ad227 := (by injection e227)
              replace qb1 := pw_cell_below HB.out qb1
              replace qa1 := pw_cell_below HB.out qa1
              have HR227_1 := Aside0.mk hi227_1
              have HC227_1 := Aside0.mk hl227_1
              clear hi227_1 hl227_1
              replace p227 := eq_true p227
              replace q227 := eq_true q227
              have p228 : 0 ≤ (x4_2 : Int) := of_decide_eq_true (by assumption)
              have q228 : x4_2 < (((rd_T42 l0_0 x3_1).f1).length : Int) := of_decide_eq_true (by assumption)
              obtain ⟨ad228, e228, qo, qh1, qw, qc1, qv, qe1⟩ := at_T46 HR227_1.out x4_2 p228 q228
              have hw228_5 := qe1
              have hw228_4 := qv
              have hw228_3 := qc1
              have hw228_2 := qw
              have hw228_1 := qh1
              have hw228_0 := qo
              cases e228
              replace qo := pw_cell_below HB.out qo
              replace qh1 := pw_cell_below HB.out qh1
              replace qw := pw_cell_below HB.out qw
              replace qc1 := pw_cell_below HB.out qc1
              replace qv := pw_cell_below HB.out qv
              replace qe1 := pw_cell_below HB.out qe1
              replace p228 := eq_true p228
              replace q228 := eq_true q228
              refine start_ (n := 30) (S := fun w' => w'.cell? ⟨gb220, 0, none⟩ = some (.slice (some ad223) l0_0.length c0_0) ∧ w'.cell? ⟨gb220, 1, none⟩ = some (.slice A0_1 l0_1.length c0_1) ∧ w'.cell? (ad223.add ((x3_1).toNat * 2)) = some (.string ((rd_T42 l0_0 x3_1).f0)) ∧ w'.cell? ⟨(ad223.add ((x3_1).toNat * 2)).block, (ad223.add ((x3_1).toNat * 2)).off + 1, none⟩ = some (.slice (some ad225) ((rd_T42 l0_0 x3_1).f1).length c224_1) ∧ w'.cell? (ad225.add ((x4_2).toNat * 6)) = some (.string ((rd_T46 ((rd_T42 l0_0 x3_1).f1) x4_2).f0)) ∧ w'.cell? ⟨(ad225.add ((x4_2).toNat * 6)).block, (ad225.add ((x4_2).toNat * 6)).off + 1, none⟩ = some (.int .i64 ((rd_T46 ((rd_T42 l0_0 x3_1).f1) x4_2).f1)) ∧ w'.cell? ⟨(ad225.add ((x4_2).toNat * 6)).block, (ad225.add ((x4_2).toNat * 6)).off + 2, none⟩ = some (.string ((rd_T46 ((rd_T42 l0_0 x3_1).f1) x4_2).f2.f0)) ∧ w'.cell? ⟨(ad225.add ((x4_2).toNat * 6)).block, (ad225.add ((x4_2).toNat * 6)).off + 3, none⟩ = some (.bool ((rd_T46 ((rd_T42 l0_0 x3_1).f1) x4_2).f2.f1)) ∧ w'.cell? ⟨(ad225.add ((x4_2).toNat * 6)).block, (ad225.add ((x4_2).toNat * 6)).off + 4, none⟩ = some (.bool ((rd_T46 ((rd_T42 l0_0 x3_1).f1) x4_2).f3)) ∧ w'.cell? ⟨(ad225.add ((x4_2).toNat * 6)).block, (ad225.add ((x4_2).toNat * 6)).off + 5, none⟩ = some (.int .i64 ((rd_T46 ((rd_T42 l0_0 x3_1).f1) x4_2).f4)) ∧ w'.cell? (ad223.add ((x3_1).toNat * 2)) = some (.string ((rd_T42 l0_0 x3_1).f0)) ∧ w'.cell? ⟨(ad223.add ((x3_1).toNat * 2)).block, (ad223.add ((x3_1).toNat * 2)).off + 1, none⟩ = some (.slice (some ad228) ((rd_T42 l0_0 x3_1).f1).length c227_1) ∧ w'.cell? (ad228.add ((x4_2).toNat * 6)) = some (.string ((rd_T46 ((rd_T42 l0_0 x3_1).f1) x4_2).f0)) ∧ w'.cell? ⟨(ad228.add ((x4_2).toNat * 6)).block, (ad228.add ((x4_2).toNat * 6)).off + 1, none⟩ = some (.int .i64 ((rd_T46 ((rd_T42 l0_0 x3_1).f1) x4_2).f1)) ∧ w'.cell? ⟨(ad228.add ((x4_2).toNat * 6)).block, (ad228.add ((x4_2).toNat * 6)).off + 2, none⟩ = some (.string ((rd_T46 ((rd_T42 l0_0 x3_1).f1) x4_2).f2.f0)) ∧ w'.cell? ⟨(ad228.add ((x4_2).toNat * 6)).block, (ad228.add ((x4_2).toNat * 6)).off + 3, none⟩ = some (.bool ((rd_T46 ((rd_T42 l0_0 x3_1).f1) x4_2).f2.f1)) ∧ w'.cell? ⟨(ad228.add ((x4_2).toNat * 6)).block, (ad228.add ((x4_2).toNat * 6)).off + 4, none⟩ = some (.bool ((rd_T46 ((rd_T42 l0_0 x3_1).f1) x4_2).f3)) ∧ w'.cell? ⟨(ad228.add ((x4_2).toNat * 6)).block, (ad228.add ((x4_2).toNat * 6)).off + 5, none⟩ = some (.int .i64 ((rd_T46 ((rd_T42 l0_0 x3_1).f1) x4_2).f4))) (ds := []) #[false, false, false, false, false, false, false, false, false, false, false, false, false, false, false, false, false, false, false, false, false, false, false, false, false, false, false, false, false, false] (by kernel_rfl) rfl rfl ⟨(blk_cell qk1.out 0).trans rfl, (blk_cell qk1.out 1).trans rfl, (pw_cell_below HB.out hw224_0), (pw_cell_below HB.out hw224_1), (pw_cell_below HB.out hw225_0), (pw_cell_below HB.out hw225_1), (pw_cell_below HB.out hw225_2), (pw_cell_below HB.out hw225_3), (pw_cell_below HB.out hw225_4), (pw_cell_below HB.out hw225_5), (pw_cell_below HB.out hw227_0), (pw_cell_below HB.out hw227_1), (pw_cell_below HB.out hw228_0), (pw_cell_below HB.out hw228_1), (pw_cell_below HB.out hw228_2), (pw_cell_below HB.out hw228_3), (pw_cell_below HB.out hw228_4), (pw_cell_below HB.out hw228_5)⟩ (fun hHeld => ?_); refine with_tabW spec_IdlCheck.tab11 spec_IdlCheck.bits11 (fun HT_ HW_ => ?_)
              generalize wr.drew = w30 at qk1 HB HR224_1 HR227_1 qd qr qa qy qb qm qn qg1 qb1 qa1 qo qh1 qw qc1 qv qe1 hHeld ⊢
              refine pu_ 1 (some 33) rfl ?_
              refine pu_ 3 (some 35) rfl ?_
              refine pu_ 7 (some 39) rfl ?_
              refine tk_ 0 (some 32) rfl hHeld ?_
              refine tk_ 2 (some 34) rfl hHeld ?_
              refine pu_ 4 (some 36) rfl ?_
              refine pu_ 5 (some 37) rfl ?_
              refine tk_ 6 (some 38) rfl hHeld ?_
              refine pu_ 8 (some 40) rfl ?_
              refine pu_ 9 (some 41) rfl ?_
              refine tk_ 10 (some 42) rfl hHeld ?_
              refine on_ 11 (some 43) rfl (fun K hK => ?_)
              refine goes_ Tryz.func32 (by kernel_rfl) rfl #[.agg #[.slice (some ad223) l0_0.length c0_0, .slice A0_1 l0_1.length c0_1], .agg #[.string ((rd_T46 ((rd_T42 l0_0 x3_1).f1) x4_2).f2.f0), .bool ((rd_T46 ((rd_T42 l0_0 x3_1).f1) x4_2).f2.f1)]] (by rfl) rfl rfl (by (try simp only [List.map_toArray, List.map_cons, List.map_nil]); first | done | rfl | (simp only [List.length_drop, List.length_take]; rfl)) ?_
              with_reducible refine (spec_l9Of.calls k2 _ _ l0_0 _ _ l0_1 ((rd_T46 ((rd_T42 l0_0 x3_1).f1) x4_2).f2.f0) ((rd_T46 ((rd_T42 l0_0 x3_1).f1) x4_2).f2.f1) t226 _ ?side1 ?side2 ?side3 ?side4 A22.out).mono ?_
              (case side1 => repeat (first | exact (Kd.C_below HR0_0.out HB.out) | (with_reducible refine Kd.C_alloc ?_ _) | (with_reducible refine Kd.C_drewN ?_ _) | (with_reducible refine Kd.C_drew ?_)))
              (case side2 => exact HC0_0.out)
              (case side3 => repeat (first | exact (Kd.C_below HR0_1.out HB.out) | (with_reducible refine Kd.C_alloc ?_ _) | (with_reducible refine Kd.C_drewN ?_ _) | (with_reducible refine Kd.C_drew ?_)))
              (case side4 => exact HC0_1.out)
              rintro e w31 ⟨rfl, hb⟩
              refine ⟨_, rfl, ?_⟩
              have n0_ := Aside0.mk (blk_below (g := gb220) (o := .cells #[.slice (some ad223) l0_0.length c0_0, .slice A0_1 l0_1.length c0_1] 26 (0, 0)) (by (with_reducible repeat (first | refine blk_drewN ?_ _ | refine blk_drew ?_ | refine blk_alloc ?_ _)); exact qk1.out) hb)
              have n1_ := Aside0.mk (below_step (by repeat (first | (with_reducible first | exact HB.out | apply below_alloc | apply pw_below_drewN | apply below_drew1 | refine below_set ?_ qj1.out) | exact HB.out)) hb)
              clear qk1
              clear HB
              have qk1 := n0_
              have HB := n1_
              clear n0_ n1_
              (try clear hb)
              (try clear hb2)
              (try clear hk)
              (try clear hi)
              refine hK.out _ _ ⟨(blk_cell qk1.out 0).trans rfl, (blk_cell qk1.out 1).trans rfl, (pw_cell_below HB.out hw224_0), (pw_cell_below HB.out hw224_1), (pw_cell_below HB.out hw225_0), (pw_cell_below HB.out hw225_1), (pw_cell_below HB.out hw225_2), (pw_cell_below HB.out hw225_3), (pw_cell_below HB.out hw225_4), (pw_cell_below HB.out hw225_5), (pw_cell_below HB.out hw227_0), (pw_cell_below HB.out hw227_1), (pw_cell_below HB.out hw228_0), (pw_cell_below HB.out hw228_1), (pw_cell_below HB.out hw228_2), (pw_cell_below HB.out hw228_3), (pw_cell_below HB.out hw228_4), (pw_cell_below HB.out hw228_5)⟩ (fun hHeld => ?_)
              clear hK K
              refine no_ 43 ?_
              refine pu_ 12 (some 44) rfl ?_
              refine pu_ 13 (some 45) rfl ?_
              refine pu_ 15 (some 47) rfl ?_
              refine pu_ 17 (some 49) rfl ?_
              refine pu_ 21 (some 53) rfl ?_
              refine tk_ 14 (some 46) rfl hHeld ?_
              refine tk_ 16 (some 48) rfl hHeld ?_
              refine pu_ 18 (some 50) rfl ?_
              refine pu_ 19 (some 51) rfl ?_
              refine tk_ 20 (some 52) rfl hHeld ?_
              refine pu_ 22 (some 54) rfl ?_
              refine pu_ 23 (some 55) rfl ?_
              refine pu_ 24 (some 56) rfl ?_
              refine tk_ 25 (some 57) rfl hHeld ?_
              refine pu_ 26 (some 58) rfl ?_
              refine on_ 27 (some 59) rfl (fun K hK => ?_)
              refine goes_ Tryz.func32 (by kernel_rfl) rfl #[.agg #[.slice (some ad223) l0_0.length c0_0, .slice A0_1 l0_1.length c0_1], .agg #[.string ((rd_T46 ((rd_T42 l0_0 x3_1).f1) x4_2).f2.f0), .bool false]] (by rfl) rfl rfl (by (try simp only [List.map_toArray, List.map_cons, List.map_nil]); first | done | rfl | (simp only [List.length_drop, List.length_take]; rfl)) ?_
              with_reducible refine (spec_l9Of.calls k2 _ _ l0_0 _ _ l0_1 ((rd_T46 ((rd_T42 l0_0 x3_1).f1) x4_2).f2.f0) false t229 _ ?side1 ?side2 ?side3 ?side4 A27.out).mono ?_
              (case side1 => repeat (first | exact (Kd.C_below HR0_0.out HB.out) | (with_reducible refine Kd.C_alloc ?_ _) | (with_reducible refine Kd.C_drewN ?_ _) | (with_reducible refine Kd.C_drew ?_)))
              (case side2 => exact HC0_0.out)
              (case side3 => repeat (first | exact (Kd.C_below HR0_1.out HB.out) | (with_reducible refine Kd.C_alloc ?_ _) | (with_reducible refine Kd.C_drewN ?_ _) | (with_reducible refine Kd.C_drew ?_)))
              (case side4 => exact HC0_1.out)
              rintro e w32 ⟨rfl, hb⟩
              refine ⟨_, rfl, ?_⟩
              have n0_ := Aside0.mk (blk_below (g := gb220) (o := .cells #[.slice (some ad223) l0_0.length c0_0, .slice A0_1 l0_1.length c0_1] 26 (0, 0)) (by (with_reducible repeat (first | refine blk_drewN ?_ _ | refine blk_drew ?_ | refine blk_alloc ?_ _)); exact qk1.out) hb)
              have n1_ := Aside0.mk (below_step (by repeat (first | (with_reducible first | exact HB.out | apply below_alloc | apply pw_below_drewN | apply below_drew1 | refine below_set ?_ qj1.out) | exact HB.out)) hb)
              clear qk1
              clear HB
              have qk1 := n0_
              have HB := n1_
              clear n0_ n1_
              (try clear hb)
              (try clear hb2)
              (try clear hk)
              (try clear hi)
              refine hK.out _ _ ⟨(blk_cell qk1.out 0).trans rfl, (blk_cell qk1.out 1).trans rfl, (pw_cell_below HB.out hw224_0), (pw_cell_below HB.out hw224_1), (pw_cell_below HB.out hw225_0), (pw_cell_below HB.out hw225_1), (pw_cell_below HB.out hw225_2), (pw_cell_below HB.out hw225_3), (pw_cell_below HB.out hw225_4), (pw_cell_below HB.out hw225_5), (pw_cell_below HB.out hw227_0), (pw_cell_below HB.out hw227_1), (pw_cell_below HB.out hw228_0), (pw_cell_below HB.out hw228_1), (pw_cell_below HB.out hw228_2), (pw_cell_below HB.out hw228_3), (pw_cell_below HB.out hw228_4), (pw_cell_below HB.out hw228_5)⟩ (fun hHeld => ?_)
              clear hK K
              refine no_ 59 ?_
              refine pu_ 28 (some 60) rfl ?_
              refine pu_ 29 (some 61) rfl ?_
              refine done_ (done_of HT_.out (by kernel_rfl)) ?_
              try go_wp2
              go_ret
              exact ⟨by first | rfl | (simp [errW_none, errW_some] <;> rfl) | (simp [*, errW_none, errW_some] <;> rfl) | (simp only [Bool.and_eq_true, beq_iff_eq, Bool.not_eq_true', Bool.not_eq_eq_eq_not, Bool.not_true, Bool.not_false] at *; simp [*]), by repeat (first | (with_reducible first | exact HB.out | apply below_alloc | apply pw_below_drewN | apply below_drew1 | refine below_set ?_ qj1.out) | exact HB.out)⟩
             ·rw [if_neg c28] at H
              have c28b0 : (t229 == 0) = false := beq_eq_false_iff_ne.mpr c28
              have c28b1 : (t229 != 0) = true := bne_iff_ne.mpr c28
              have H' := Aside0.mk H
              clear H
              have hcz33_0 : wr.cell? ⟨gb220, 0, none⟩ = some (.slice A0_0 l0_0.length c0_0) := (blk_cell qk1.out 0).trans rfl
              have hcz33_1 : wr.cell? ⟨gb220, 1, none⟩ = some (.slice A0_1 l0_1.length c0_1) := (blk_cell qk1.out 1).trans rfl
              have hfz33_0 := blk_frozen qk1.out 0
              have hfz33_1 := blk_frozen qk1.out 1
              have p223 : 0 ≤ (x3_1 : Int) := of_decide_eq_true (by assumption)
              have q223 : x3_1 < (l0_0.length : Int) := of_decide_eq_true (by assumption)
              obtain ⟨ad223, A223_1, c223_1, e223, qi, qg, hl223_1, hi223_1⟩ := at_T42 HR0_0.out x3_1 p223 q223
              cases e223
              replace qi := pw_cell_below HB.out qi
              replace qg := pw_cell_below HB.out qg
              have HR223_1 := Aside0.mk hi223_1
              have HC223_1 := Aside0.mk hl223_1
              clear hi223_1 hl223_1
              replace p223 := eq_true p223
              replace q223 := eq_true q223
              try go_wp2
              have n0_ := Aside0.mk (blk_drew qk1.out)
              have n1_ := Aside0.mk (below_drew1 HB.out)
              clear qk1
              clear HB
              have qk1 := n0_
              have HB := n1_
              clear n0_ n1_
              have p224 : 0 ≤ (x3_1 : Int) := of_decide_eq_true (by assumption)
              have q224 : x3_1 < (l0_0.length : Int) := of_decide_eq_true (by assumption)
              obtain ⟨ad224, A224_1, c224_1, e224, qd, qr, hl224_1, hi224_1⟩ := at_T42 HR0_0.out x3_1 p224 q224
              have hw224_1 := qr
              have hw224_0 := qd
              obtain rfl : ad223 = ad224 := (by injection e224)
              replace qd := pw_cell_below HB.out qd
              replace qr := pw_cell_below HB.out qr
              have HR224_1 := Aside0.mk hi224_1
              have HC224_1 := Aside0.mk hl224_1
              clear hi224_1 hl224_1
              replace p224 := eq_true p224
              replace q224 := eq_true q224
              have p225 : 0 ≤ (x4_2 : Int) := of_decide_eq_true (by assumption)
              have q225 : x4_2 < (((rd_T42 l0_0 x3_1).f1).length : Int) := of_decide_eq_true (by assumption)
              obtain ⟨ad225, e225, qa, qy, qb, qm, qn, qg1⟩ := at_T46 HR224_1.out x4_2 p225 q225
              have hw225_5 := qg1
              have hw225_4 := qn
              have hw225_3 := qm
              have hw225_2 := qb
              have hw225_1 := qy
              have hw225_0 := qa
              cases e225
              replace qa := pw_cell_below HB.out qa
              replace qy := pw_cell_below HB.out qy
              replace qb := pw_cell_below HB.out qb
              replace qm := pw_cell_below HB.out qm
              replace qn := pw_cell_below HB.out qn
              replace qg1 := pw_cell_below HB.out qg1
              replace p225 := eq_true p225
              replace q225 := eq_true q225
              have p227 : 0 ≤ (x3_1 : Int) := of_decide_eq_true (by assumption)
              have q227 : x3_1 < (l0_0.length : Int) := of_decide_eq_true (by assumption)
              obtain ⟨ad227, A227_1, c227_1, e227, qb1, qa1, hl227_1, hi227_1⟩ := at_T42 HR0_0.out x3_1 p227 q227
              have hw227_1 := qa1
              have hw227_0 := qb1
              obtain rfl : ad223 = ad227 := (by injection e227)
              replace qb1 := pw_cell_below HB.out qb1
              replace qa1 := pw_cell_below HB.out qa1
              have HR227_1 := Aside0.mk hi227_1
              have HC227_1 := Aside0.mk hl227_1
              clear hi227_1 hl227_1
              replace p227 := eq_true p227
              replace q227 := eq_true q227
              have p228 : 0 ≤ (x4_2 : Int) := of_decide_eq_true (by assumption)
              have q228 : x4_2 < (((rd_T42 l0_0 x3_1).f1).length : Int) := of_decide_eq_true (by assumption)
              obtain ⟨ad228, e228, qo, qh1, qw, qc1, qv, qe1⟩ := at_T46 HR227_1.out x4_2 p228 q228
              have hw228_5 := qe1
              have hw228_4 := qv
              have hw228_3 := qc1
              have hw228_2 := qw
              have hw228_1 := qh1
              have hw228_0 := qo
              cases e228
              replace qo := pw_cell_below HB.out qo
              replace qh1 := pw_cell_below HB.out qh1
              replace qw := pw_cell_below HB.out qw
              replace qc1 := pw_cell_below HB.out qc1
              replace qv := pw_cell_below HB.out qv
              replace qe1 := pw_cell_below HB.out qe1
              replace p228 := eq_true p228
              replace q228 := eq_true q228
              refine start_ (n := 30) (S := fun w' => w'.cell? ⟨gb220, 0, none⟩ = some (.slice (some ad223) l0_0.length c0_0) ∧ w'.cell? ⟨gb220, 1, none⟩ = some (.slice A0_1 l0_1.length c0_1) ∧ w'.cell? (ad223.add ((x3_1).toNat * 2)) = some (.string ((rd_T42 l0_0 x3_1).f0)) ∧ w'.cell? ⟨(ad223.add ((x3_1).toNat * 2)).block, (ad223.add ((x3_1).toNat * 2)).off + 1, none⟩ = some (.slice (some ad225) ((rd_T42 l0_0 x3_1).f1).length c224_1) ∧ w'.cell? (ad225.add ((x4_2).toNat * 6)) = some (.string ((rd_T46 ((rd_T42 l0_0 x3_1).f1) x4_2).f0)) ∧ w'.cell? ⟨(ad225.add ((x4_2).toNat * 6)).block, (ad225.add ((x4_2).toNat * 6)).off + 1, none⟩ = some (.int .i64 ((rd_T46 ((rd_T42 l0_0 x3_1).f1) x4_2).f1)) ∧ w'.cell? ⟨(ad225.add ((x4_2).toNat * 6)).block, (ad225.add ((x4_2).toNat * 6)).off + 2, none⟩ = some (.string ((rd_T46 ((rd_T42 l0_0 x3_1).f1) x4_2).f2.f0)) ∧ w'.cell? ⟨(ad225.add ((x4_2).toNat * 6)).block, (ad225.add ((x4_2).toNat * 6)).off + 3, none⟩ = some (.bool ((rd_T46 ((rd_T42 l0_0 x3_1).f1) x4_2).f2.f1)) ∧ w'.cell? ⟨(ad225.add ((x4_2).toNat * 6)).block, (ad225.add ((x4_2).toNat * 6)).off + 4, none⟩ = some (.bool ((rd_T46 ((rd_T42 l0_0 x3_1).f1) x4_2).f3)) ∧ w'.cell? ⟨(ad225.add ((x4_2).toNat * 6)).block, (ad225.add ((x4_2).toNat * 6)).off + 5, none⟩ = some (.int .i64 ((rd_T46 ((rd_T42 l0_0 x3_1).f1) x4_2).f4)) ∧ w'.cell? (ad223.add ((x3_1).toNat * 2)) = some (.string ((rd_T42 l0_0 x3_1).f0)) ∧ w'.cell? ⟨(ad223.add ((x3_1).toNat * 2)).block, (ad223.add ((x3_1).toNat * 2)).off + 1, none⟩ = some (.slice (some ad228) ((rd_T42 l0_0 x3_1).f1).length c227_1) ∧ w'.cell? (ad228.add ((x4_2).toNat * 6)) = some (.string ((rd_T46 ((rd_T42 l0_0 x3_1).f1) x4_2).f0)) ∧ w'.cell? ⟨(ad228.add ((x4_2).toNat * 6)).block, (ad228.add ((x4_2).toNat * 6)).off + 1, none⟩ = some (.int .i64 ((rd_T46 ((rd_T42 l0_0 x3_1).f1) x4_2).f1)) ∧ w'.cell? ⟨(ad228.add ((x4_2).toNat * 6)).block, (ad228.add ((x4_2).toNat * 6)).off + 2, none⟩ = some (.string ((rd_T46 ((rd_T42 l0_0 x3_1).f1) x4_2).f2.f0)) ∧ w'.cell? ⟨(ad228.add ((x4_2).toNat * 6)).block, (ad228.add ((x4_2).toNat * 6)).off + 3, none⟩ = some (.bool ((rd_T46 ((rd_T42 l0_0 x3_1).f1) x4_2).f2.f1)) ∧ w'.cell? ⟨(ad228.add ((x4_2).toNat * 6)).block, (ad228.add ((x4_2).toNat * 6)).off + 4, none⟩ = some (.bool ((rd_T46 ((rd_T42 l0_0 x3_1).f1) x4_2).f3)) ∧ w'.cell? ⟨(ad228.add ((x4_2).toNat * 6)).block, (ad228.add ((x4_2).toNat * 6)).off + 5, none⟩ = some (.int .i64 ((rd_T46 ((rd_T42 l0_0 x3_1).f1) x4_2).f4))) (ds := []) #[false, false, false, false, false, false, false, false, false, false, false, false, false, false, false, false, false, false, false, false, false, false, false, false, false, false, false, false, false, false] (by kernel_rfl) rfl rfl ⟨(blk_cell qk1.out 0).trans rfl, (blk_cell qk1.out 1).trans rfl, (pw_cell_below HB.out hw224_0), (pw_cell_below HB.out hw224_1), (pw_cell_below HB.out hw225_0), (pw_cell_below HB.out hw225_1), (pw_cell_below HB.out hw225_2), (pw_cell_below HB.out hw225_3), (pw_cell_below HB.out hw225_4), (pw_cell_below HB.out hw225_5), (pw_cell_below HB.out hw227_0), (pw_cell_below HB.out hw227_1), (pw_cell_below HB.out hw228_0), (pw_cell_below HB.out hw228_1), (pw_cell_below HB.out hw228_2), (pw_cell_below HB.out hw228_3), (pw_cell_below HB.out hw228_4), (pw_cell_below HB.out hw228_5)⟩ (fun hHeld => ?_); refine with_tabW spec_IdlCheck.tab11 spec_IdlCheck.bits11 (fun HT_ HW_ => ?_)
              generalize wr.drew = w34 at qk1 HB HR224_1 HR227_1 qd qr qa qy qb qm qn qg1 qb1 qa1 qo qh1 qw qc1 qv qe1 hHeld ⊢
              refine pu_ 1 (some 33) rfl ?_
              refine pu_ 3 (some 35) rfl ?_
              refine pu_ 7 (some 39) rfl ?_
              refine tk_ 0 (some 32) rfl hHeld ?_
              refine tk_ 2 (some 34) rfl hHeld ?_
              refine pu_ 4 (some 36) rfl ?_
              refine pu_ 5 (some 37) rfl ?_
              refine tk_ 6 (some 38) rfl hHeld ?_
              refine pu_ 8 (some 40) rfl ?_
              refine pu_ 9 (some 41) rfl ?_
              refine tk_ 10 (some 42) rfl hHeld ?_
              refine on_ 11 (some 43) rfl (fun K hK => ?_)
              refine goes_ Tryz.func32 (by kernel_rfl) rfl #[.agg #[.slice (some ad223) l0_0.length c0_0, .slice A0_1 l0_1.length c0_1], .agg #[.string ((rd_T46 ((rd_T42 l0_0 x3_1).f1) x4_2).f2.f0), .bool ((rd_T46 ((rd_T42 l0_0 x3_1).f1) x4_2).f2.f1)]] (by rfl) rfl rfl (by (try simp only [List.map_toArray, List.map_cons, List.map_nil]); first | done | rfl | (simp only [List.length_drop, List.length_take]; rfl)) ?_
              with_reducible refine (spec_l9Of.calls k2 _ _ l0_0 _ _ l0_1 ((rd_T46 ((rd_T42 l0_0 x3_1).f1) x4_2).f2.f0) ((rd_T46 ((rd_T42 l0_0 x3_1).f1) x4_2).f2.f1) t226 _ ?side1 ?side2 ?side3 ?side4 A22.out).mono ?_
              (case side1 => repeat (first | exact (Kd.C_below HR0_0.out HB.out) | (with_reducible refine Kd.C_alloc ?_ _) | (with_reducible refine Kd.C_drewN ?_ _) | (with_reducible refine Kd.C_drew ?_)))
              (case side2 => exact HC0_0.out)
              (case side3 => repeat (first | exact (Kd.C_below HR0_1.out HB.out) | (with_reducible refine Kd.C_alloc ?_ _) | (with_reducible refine Kd.C_drewN ?_ _) | (with_reducible refine Kd.C_drew ?_)))
              (case side4 => exact HC0_1.out)
              rintro e w35 ⟨rfl, hb⟩
              refine ⟨_, rfl, ?_⟩
              have n0_ := Aside0.mk (blk_below (g := gb220) (o := .cells #[.slice (some ad223) l0_0.length c0_0, .slice A0_1 l0_1.length c0_1] 26 (0, 0)) (by (with_reducible repeat (first | refine blk_drewN ?_ _ | refine blk_drew ?_ | refine blk_alloc ?_ _)); exact qk1.out) hb)
              have n1_ := Aside0.mk (below_step (by repeat (first | (with_reducible first | exact HB.out | apply below_alloc | apply pw_below_drewN | apply below_drew1 | refine below_set ?_ qj1.out) | exact HB.out)) hb)
              clear qk1
              clear HB
              have qk1 := n0_
              have HB := n1_
              clear n0_ n1_
              (try clear hb)
              (try clear hb2)
              (try clear hk)
              (try clear hi)
              refine hK.out _ _ ⟨(blk_cell qk1.out 0).trans rfl, (blk_cell qk1.out 1).trans rfl, (pw_cell_below HB.out hw224_0), (pw_cell_below HB.out hw224_1), (pw_cell_below HB.out hw225_0), (pw_cell_below HB.out hw225_1), (pw_cell_below HB.out hw225_2), (pw_cell_below HB.out hw225_3), (pw_cell_below HB.out hw225_4), (pw_cell_below HB.out hw225_5), (pw_cell_below HB.out hw227_0), (pw_cell_below HB.out hw227_1), (pw_cell_below HB.out hw228_0), (pw_cell_below HB.out hw228_1), (pw_cell_below HB.out hw228_2), (pw_cell_below HB.out hw228_3), (pw_cell_below HB.out hw228_4), (pw_cell_below HB.out hw228_5)⟩ (fun hHeld => ?_)
              clear hK K
              refine no_ 43 ?_
              refine pu_ 12 (some 44) rfl ?_
              refine pu_ 13 (some 45) rfl ?_
              refine pu_ 15 (some 47) rfl ?_
              refine pu_ 17 (some 49) rfl ?_
              refine pu_ 21 (some 53) rfl ?_
              refine tk_ 14 (some 46) rfl hHeld ?_
              refine tk_ 16 (some 48) rfl hHeld ?_
              refine pu_ 18 (some 50) rfl ?_
              refine pu_ 19 (some 51) rfl ?_
              refine tk_ 20 (some 52) rfl hHeld ?_
              refine pu_ 22 (some 54) rfl ?_
              refine pu_ 23 (some 55) rfl ?_
              refine pu_ 24 (some 56) rfl ?_
              refine tk_ 25 (some 57) rfl hHeld ?_
              refine pu_ 26 (some 58) rfl ?_
              refine on_ 27 (some 59) rfl (fun K hK => ?_)
              refine goes_ Tryz.func32 (by kernel_rfl) rfl #[.agg #[.slice (some ad223) l0_0.length c0_0, .slice A0_1 l0_1.length c0_1], .agg #[.string ((rd_T46 ((rd_T42 l0_0 x3_1).f1) x4_2).f2.f0), .bool false]] (by rfl) rfl rfl (by (try simp only [List.map_toArray, List.map_cons, List.map_nil]); first | done | rfl | (simp only [List.length_drop, List.length_take]; rfl)) ?_
              with_reducible refine (spec_l9Of.calls k2 _ _ l0_0 _ _ l0_1 ((rd_T46 ((rd_T42 l0_0 x3_1).f1) x4_2).f2.f0) false t229 _ ?side1 ?side2 ?side3 ?side4 A27.out).mono ?_
              (case side1 => repeat (first | exact (Kd.C_below HR0_0.out HB.out) | (with_reducible refine Kd.C_alloc ?_ _) | (with_reducible refine Kd.C_drewN ?_ _) | (with_reducible refine Kd.C_drew ?_)))
              (case side2 => exact HC0_0.out)
              (case side3 => repeat (first | exact (Kd.C_below HR0_1.out HB.out) | (with_reducible refine Kd.C_alloc ?_ _) | (with_reducible refine Kd.C_drewN ?_ _) | (with_reducible refine Kd.C_drew ?_)))
              (case side4 => exact HC0_1.out)
              rintro e w36 ⟨rfl, hb⟩
              refine ⟨_, rfl, ?_⟩
              have n0_ := Aside0.mk (blk_below (g := gb220) (o := .cells #[.slice (some ad223) l0_0.length c0_0, .slice A0_1 l0_1.length c0_1] 26 (0, 0)) (by (with_reducible repeat (first | refine blk_drewN ?_ _ | refine blk_drew ?_ | refine blk_alloc ?_ _)); exact qk1.out) hb)
              have n1_ := Aside0.mk (below_step (by repeat (first | (with_reducible first | exact HB.out | apply below_alloc | apply pw_below_drewN | apply below_drew1 | refine below_set ?_ qj1.out) | exact HB.out)) hb)
              clear qk1
              clear HB
              have qk1 := n0_
              have HB := n1_
              clear n0_ n1_
              (try clear hb)
              (try clear hb2)
              (try clear hk)
              (try clear hi)
              refine hK.out _ _ ⟨(blk_cell qk1.out 0).trans rfl, (blk_cell qk1.out 1).trans rfl, (pw_cell_below HB.out hw224_0), (pw_cell_below HB.out hw224_1), (pw_cell_below HB.out hw225_0), (pw_cell_below HB.out hw225_1), (pw_cell_below HB.out hw225_2), (pw_cell_below HB.out hw225_3), (pw_cell_below HB.out hw225_4), (pw_cell_below HB.out hw225_5), (pw_cell_below HB.out hw227_0), (pw_cell_below HB.out hw227_1), (pw_cell_below HB.out hw228_0), (pw_cell_below HB.out hw228_1), (pw_cell_below HB.out hw228_2), (pw_cell_below HB.out hw228_3), (pw_cell_below HB.out hw228_4), (pw_cell_below HB.out hw228_5)⟩ (fun hHeld => ?_)
              clear hK K
              refine no_ 59 ?_
              refine pu_ 28 (some 60) rfl ?_
              refine pu_ 29 (some 61) rfl ?_
              refine done_ (done_of HT_.out (by kernel_rfl)) ?_
              try go_wp2
              go_roundg k2
              case measure => have := HK1.out; have := HK2.out; omega
              case rel => exact ⟨(wrap64 (x4_2 + 1)), (by first | rfl | (simp; done) | (simp [*]; done)), H', ⟨by have := HK1.out; have := HK2.out; omega⟩, ⟨by (with_reducible repeat (first | refine blk_drewN ?_ _ | refine blk_drew ?_ | refine blk_alloc ?_ _)); exact qk1.out⟩, ⟨by repeat (first | (with_reducible first | exact HB.out | apply below_alloc | apply pw_below_drewN | apply below_drew1 | refine below_set ?_ qj1.out) | exact HB.out)⟩⟩
           ·rw [if_neg c21] at H
            exact absurd H (by simp)
          ·rw [if_neg c20] at H
           have c20b0 : decide (x4_2 < (((rd_T42 l0_0 x3_1).f1).length : Int)) = false := decide_eq_false c20
           clear c20
           have H' := Aside0.mk H
           clear H
           have hcz37_0 : wr.cell? ⟨gb220, 0, none⟩ = some (.slice A0_0 l0_0.length c0_0) := (blk_cell qk1.out 0).trans rfl
           have hcz37_1 : wr.cell? ⟨gb220, 1, none⟩ = some (.slice A0_1 l0_1.length c0_1) := (blk_cell qk1.out 1).trans rfl
           have hfz37_0 := blk_frozen qk1.out 0
           have hfz37_1 := blk_frozen qk1.out 1
           have p223 : 0 ≤ (x3_1 : Int) := of_decide_eq_true (by assumption)
           have q223 : x3_1 < (l0_0.length : Int) := of_decide_eq_true (by assumption)
           obtain ⟨ad223, A223_1, c223_1, e223, qi, qg, hl223_1, hi223_1⟩ := at_T42 HR0_0.out x3_1 p223 q223
           cases e223
           replace qi := pw_cell_below HB.out qi
           replace qg := pw_cell_below HB.out qg
           have HR223_1 := Aside0.mk hi223_1
           have HC223_1 := Aside0.mk hl223_1
           clear hi223_1 hl223_1
           replace p223 := eq_true p223
           replace q223 := eq_true q223
           go_wp2
           go_roundg k2
           case measure => have := HK1.out; have := HK2.out; omega
           case rel => exact ⟨(wrap64 (x3_1 + 1)), (by first | rfl | (simp; done) | (simp [*]; done)), H', ⟨by have := HK1.out; have := HK2.out; omega⟩, ⟨by (with_reducible repeat (first | refine blk_drewN ?_ _ | refine blk_drew ?_ | refine blk_alloc ?_ _)); exact qk1.out⟩, ⟨by repeat (first | (with_reducible first | exact HB.out | apply below_alloc | apply pw_below_drewN | apply below_drew1 | refine below_set ?_ qj1.out) | exact HB.out)⟩⟩
         ·rw [if_neg c19] at H
          exact absurd H (by simp)
        ·rw [if_neg c18] at H
         exact absurd H (by simp)
     ·rw [if_neg c16] at H
      have c16b0 : decide (x3_1 < (l0_0.length : Int)) = false := decide_eq_false c16
      clear c16
      have H' := Aside0.mk H
      clear H
      have hcz38_0 : wr.cell? ⟨gb220, 0, none⟩ = some (.slice A0_0 l0_0.length c0_0) := (blk_cell qk1.out 0).trans rfl
      have hcz38_1 : wr.cell? ⟨gb220, 1, none⟩ = some (.slice A0_1 l0_1.length c0_1) := (blk_cell qk1.out 1).trans rfl
      have hfz38_0 := blk_frozen qk1.out 0
      have hfz38_1 := blk_frozen qk1.out 1
      go_wp2
      go_loopg [5] k1 (fun kq v5 w' => ∃ (x5_2 : Int), v5 = .int .i64 x5_2 ∧ Aside0 (spec_IdlCheck.l2 kq x5_2 l0_0 l0_1 = some r) ∧ Aside0 (kq ≤ k1) ∧ Aside0 (w'.heap[gb220]? = some (.cells #[(.slice A0_0 l0_0.length c0_0), (.slice A0_1 l0_1.length c0_1)] 26 (0, 0))) ∧ Aside0 (Below w.heap.size w w'))
      case atStart => exact ⟨(0), (by first | rfl | (simp; done) | (simp [*]; done)), H', ⟨Nat.le_refl _⟩, ⟨by (with_reducible repeat (first | refine blk_drewN ?_ _ | refine blk_drew ?_ | refine blk_alloc ?_ _)); exact qk1.out⟩, ⟨by repeat (first | (with_reducible first | exact HB.out | apply below_alloc | apply pw_below_drewN | apply below_drew1 | refine below_set ?_ qj1.out) | exact HB.out)⟩⟩
      case round =>
       clear H'
       try clear c1
       try clear c2
       try clear p2
       try clear q2
       try clear hx2
       try clear c3
       try clear p6
       try clear c16
       try clear c16b0
       try clear c18
       try clear c19
       try clear c20
       try clear c20b0
       try clear c21
       try clear c22
       try clear p22
       try clear q22
       try clear hx22
       try clear c28
       try clear c28b0
       try clear c28b1
       try clear c32
       try clear hcz33_0
       try clear hcz33_1
       try clear hcz37_0
       try clear hcz37_1
       try clear hcz38_0
       try clear hcz38_1
       try clear hfz33_0
       try clear hfz33_1
       try clear hfz37_0
       try clear hfz37_1
       try clear hfz38_0
       try clear hfz38_1
       try clear qi
       try clear qg
       try clear qd
       try clear qr
       try clear qa
       try clear qy
       try clear qb
       try clear qm
       try clear qn
       try clear qg1
       try clear qb1
       try clear qa1
       try clear qo
       try clear qh1
       try clear qw
       try clear qc1
       try clear qv
       try clear qe1
       try clear p223
       try clear p224
       try clear p225
       try clear p227
       try clear p228
       try clear q223
       try clear q224
       try clear q225
       try clear q227
       try clear q228
       obtain ⟨x5_2, rfl, HA, HK2, qk1, HB⟩ := hrel
       cases gk with
       | zero => exact absurd HA.out (by simp [spec_IdlCheck.l2])
       | succ k2 =>
        have H := HA.out
        clear HA
        simp only [spec_IdlCheck.l2] at H
        by_cases c39 : x5_2 < (l0_0.length : Int)
        ·rw [if_pos c39] at H
         have c39b0 : decide (x5_2 < (l0_0.length : Int)) = true := decide_eq_true c39
         clear c39
         have H' := Aside0.mk H
         clear H
         have hcz40_0 : wr.cell? ⟨gb220, 0, none⟩ = some (.slice A0_0 l0_0.length c0_0) := (blk_cell qk1.out 0).trans rfl
         have hcz40_1 : wr.cell? ⟨gb220, 1, none⟩ = some (.slice A0_1 l0_1.length c0_1) := (blk_cell qk1.out 1).trans rfl
         have hfz40_0 := blk_frozen qk1.out 0
         have hfz40_1 := blk_frozen qk1.out 1
         go_wp2
         go_loopg [6] k2 (fun kq v6 w' => ∃ (x6_3 : Int), v6 = .int .i64 x6_3 ∧ Aside0 (spec_IdlCheck.l3 kq x5_2 x6_3 l0_0 l0_1 = some r) ∧ Aside0 (kq ≤ k2) ∧ Aside0 (w'.heap[gb220]? = some (.cells #[(.slice A0_0 l0_0.length c0_0), (.slice A0_1 l0_1.length c0_1)] 26 (0, 0))) ∧ Aside0 (Below w.heap.size w w'))
         case atStart => exact ⟨(0), (by first | rfl | (simp; done) | (simp [*]; done)), H', ⟨Nat.le_refl _⟩, ⟨by (with_reducible repeat (first | refine blk_drewN ?_ _ | refine blk_drew ?_ | refine blk_alloc ?_ _)); exact qk1.out⟩, ⟨by repeat (first | (with_reducible first | exact HB.out | apply below_alloc | apply pw_below_drewN | apply below_drew1 | refine below_set ?_ qj1.out) | exact HB.out)⟩⟩
         case round =>
          clear H'
          try clear c1
          try clear c2
          try clear p2
          try clear q2
          try clear hx2
          try clear c3
          try clear p6
          try clear c16
          try clear c16b0
          try clear c18
          try clear c19
          try clear c20
          try clear c20b0
          try clear c21
          try clear c22
          try clear p22
          try clear q22
          try clear hx22
          try clear c28
          try clear c28b0
          try clear c28b1
          try clear c32
          try clear c39
          try clear c39b0
          try clear hcz33_0
          try clear hcz33_1
          try clear hcz37_0
          try clear hcz37_1
          try clear hcz38_0
          try clear hcz38_1
          try clear hcz40_0
          try clear hcz40_1
          try clear hfz33_0
          try clear hfz33_1
          try clear hfz37_0
          try clear hfz37_1
          try clear hfz38_0
          try clear hfz38_1
          try clear hfz40_0
          try clear hfz40_1
          try clear qi
          try clear qg
          try clear qd
          try clear qr
          try clear qa
          try clear qy
          try clear qb
          try clear qm
          try clear qn
          try clear qg1
          try clear qb1
          try clear qa1
          try clear qo
          try clear qh1
          try clear qw
          try clear qc1
          try clear qv
          try clear qe1
          try clear p2
          try clear p22
          try clear p223
          try clear p224
          try clear p225
          try clear p227
          try clear p228
          try clear p6
          try clear q2
          try clear q22
          try clear q223
          try clear q224
          try clear q225
          try clear q227
          try clear q228
          obtain ⟨x6_3, rfl, HA, HK3, qk1, HB⟩ := hrel
          cases gk with
          | zero => exact absurd HA.out (by simp [spec_IdlCheck.l3])
          | succ k3 =>
           have H := HA.out
           clear HA
           simp only [spec_IdlCheck.l3] at H
           by_cases c41 : 0 ≤ x5_2
           ·rw [if_pos c41] at H
            have c41b0 : decide (0 ≤ x5_2) = true := decide_eq_true c41
            clear c41
            by_cases c42 : x5_2 < (l0_0.length : Int)
            ·rw [if_pos c42] at H
             have c42b0 : decide (x5_2 < (l0_0.length : Int)) = true := decide_eq_true c42
             clear c42
             by_cases c43 : x6_3 < (((rd_T42 l0_0 x5_2).f1).length : Int)
             ·rw [if_pos c43] at H
              have c43b0 : decide (x6_3 < (((rd_T42 l0_0 x5_2).f1).length : Int)) = true := decide_eq_true c43
              clear c43
              replace H := Option.bind_eq_some_iff.mp H
              obtain ⟨t232, A440, H⟩ := H
              replace H : (if t232 < 0 then (some 4) else (spec_IdlCheck.l3 k3 x5_2 (wrap64 (x6_3 + 1)) l0_0 l0_1)) = some r := H
              have A44 := Aside0.mk A440
              clear A440
              by_cases c45 : t232 < 0
              ·rw [if_pos c45] at H
               have c45b0 : decide (t232 < 0) = true := decide_eq_true c45
               clear c45
               obtain rfl := Option.some.inj H
               have hcz46_0 : wr.cell? ⟨gb220, 0, none⟩ = some (.slice A0_0 l0_0.length c0_0) := (blk_cell qk1.out 0).trans rfl
               have hcz46_1 : wr.cell? ⟨gb220, 1, none⟩ = some (.slice A0_1 l0_1.length c0_1) := (blk_cell qk1.out 1).trans rfl
               have hfz46_0 := blk_frozen qk1.out 0
               have hfz46_1 := blk_frozen qk1.out 1
               have p230 : 0 ≤ (x5_2 : Int) := of_decide_eq_true (by assumption)
               have q230 : x5_2 < (l0_0.length : Int) := of_decide_eq_true (by assumption)
               obtain ⟨ad230, A230_1, c230_1, e230, qp, ql, hl230_1, hi230_1⟩ := at_T42 HR0_0.out x5_2 p230 q230
               cases e230
               replace qp := pw_cell_below HB.out qp
               replace ql := pw_cell_below HB.out ql
               have HR230_1 := Aside0.mk hi230_1
               have HC230_1 := Aside0.mk hl230_1
               clear hi230_1 hl230_1
               replace p230 := eq_true p230
               replace q230 := eq_true q230
               have p231 : 0 ≤ (x5_2 : Int) := of_decide_eq_true (by assumption)
               have q231 : x5_2 < (l0_0.length : Int) := of_decide_eq_true (by assumption)
               obtain ⟨ad231, A231_1, c231_1, e231, qx, qz, hl231_1, hi231_1⟩ := at_T42 HR0_0.out x5_2 p231 q231
               obtain rfl : ad230 = ad231 := (by injection e231)
               replace qx := pw_cell_below HB.out qx
               replace qz := pw_cell_below HB.out qz
               have HR231_1 := Aside0.mk hi231_1
               have HC231_1 := Aside0.mk hl231_1
               clear hi231_1 hl231_1
               replace p231 := eq_true p231
               replace q231 := eq_true q231
               have ea_ := Option.some.inj (ql.symm.trans qz)
               injection ea_ with ea_ en_ ec_
               subst ea_
               subst ec_
               clear en_
               go_wp2_with (first | ((with_reducible refine gate_callee (f := 33) rfl ?_); refine goesL_ (some 86) rfl rfl Tryz.func33 (by kernel_rfl) rfl #[.agg #[.string ((rd_T42 l0_0 x5_2).f0), .slice A230_1 ((rd_T42 l0_0 x5_2).f1).length c230_1], .int .i64 x6_3] rfl (by (try simp only [List.map_toArray, List.map_cons, List.map_nil]); first | done | rfl | (simp only [List.length_drop, List.length_take]; rfl)) ?_; (with_reducible refine (spec_l9Decl.calls k3 ((rd_T42 l0_0 x5_2).f0) _ _ ((rd_T42 l0_0 x5_2).f1) x6_3 t232 _ ?side1 ?side2 A44.out).mono ?_); (case side1 => repeat (first | exact (Kd.C_below HR231_1.out HB.out) | (with_reducible refine Kd.C_alloc ?_ _) | (with_reducible refine Kd.C_drewN ?_ _) | (with_reducible refine Kd.C_drew ?_))); (case side2 => exact HC231_1.out); rintro e w47 ⟨rfl, hb⟩; refine ⟨_, rfl, ?_⟩; have n0_ := Aside0.mk (blk_below (g := gb220) (o := .cells #[.slice (some ad230) l0_0.length c0_0, .slice A0_1 l0_1.length c0_1] 26 (0, 0)) (by (with_reducible repeat (first | refine blk_drewN ?_ _ | refine blk_drew ?_ | refine blk_alloc ?_ _)); exact qk1.out) hb); have n1_ := Aside0.mk (below_step (by repeat (first | (with_reducible first | exact HB.out | apply below_alloc | apply pw_below_drewN | apply below_drew1 | refine below_set ?_ qj1.out) | exact HB.out)) hb); clear qk1; clear HB; have qk1 := n0_; have HB := n1_; clear n0_ n1_; (try clear hb); (try clear hb2); (try clear hk); (try clear hi)))
               go_ret
               exact ⟨by first | rfl | (simp [errW_none, errW_some] <;> rfl) | (simp [*, errW_none, errW_some] <;> rfl) | (simp only [Bool.and_eq_true, beq_iff_eq, Bool.not_eq_true', Bool.not_eq_eq_eq_not, Bool.not_true, Bool.not_false] at *; simp [*]), by repeat (first | (with_reducible first | exact HB.out | apply below_alloc | apply pw_below_drewN | apply below_drew1 | refine below_set ?_ qj1.out) | exact HB.out)⟩
              ·rw [if_neg c45] at H
               have c45b0 : decide (t232 < 0) = false := decide_eq_false c45
               clear c45
               have H' := Aside0.mk H
               clear H
               have hcz48_0 : wr.cell? ⟨gb220, 0, none⟩ = some (.slice A0_0 l0_0.length c0_0) := (blk_cell qk1.out 0).trans rfl
               have hcz48_1 : wr.cell? ⟨gb220, 1, none⟩ = some (.slice A0_1 l0_1.length c0_1) := (blk_cell qk1.out 1).trans rfl
               have hfz48_0 := blk_frozen qk1.out 0
               have hfz48_1 := blk_frozen qk1.out 1
               have p230 : 0 ≤ (x5_2 : Int) := of_decide_eq_true (by assumption)
               have q230 : x5_2 < (l0_0.length : Int) := of_decide_eq_true (by assumption)
               obtain ⟨ad230, A230_1, c230_1, e230, qp, ql, hl230_1, hi230_1⟩ := at_T42 HR0_0.out x5_2 p230 q230
               cases e230
               replace qp := pw_cell_below HB.out qp
               replace ql := pw_cell_below HB.out ql
               have HR230_1 := Aside0.mk hi230_1
               have HC230_1 := Aside0.mk hl230_1
               clear hi230_1 hl230_1
               replace p230 := eq_true p230
               replace q230 := eq_true q230
               have p231 : 0 ≤ (x5_2 : Int) := of_decide_eq_true (by assumption)
               have q231 : x5_2 < (l0_0.length : Int) := of_decide_eq_true (by assumption)
               obtain ⟨ad231, A231_1, c231_1, e231, qx, qz, hl231_1, hi231_1⟩ := at_T42 HR0_0.out x5_2 p231 q231
               obtain rfl : ad230 = ad231 := (by injection e231)
               replace qx := pw_cell_below HB.out qx
               replace qz := pw_cell_below HB.out qz
               have HR231_1 := Aside0.mk hi231_1
               have HC231_1 := Aside0.mk hl231_1
               clear hi231_1 hl231_1
               replace p231 := eq_true p231
               replace q231 := eq_true q231
               have ea_ := Option.some.inj (ql.symm.trans qz)
               injection ea_ with ea_ en_ ec_
               subst ea_
               subst ec_
               clear en_
               go_wp2_with (first | ((with_reducible refine gate_callee (f := 33) rfl ?_); refine goesL_ (some 86) rfl rfl Tryz.func33 (by kernel_rfl) rfl #[.agg #[.string ((rd_T42 l0_0 x5_2).f0), .slice A230_1 ((rd_T42 l0_0 x5_2).f1).length c230_1], .int .i64 x6_3] rfl (by (try simp only [List.map_toArray, List.map_cons, List.map_nil]); first | done | rfl | (simp only [List.length_drop, List.length_take]; rfl)) ?_; (with_reducible refine (spec_l9Decl.calls k3 ((rd_T42 l0_0 x5_2).f0) _ _ ((rd_T42 l0_0 x5_2).f1) x6_3 t232 _ ?side1 ?side2 A44.out).mono ?_); (case side1 => repeat (first | exact (Kd.C_below HR231_1.out HB.out) | (with_reducible refine Kd.C_alloc ?_ _) | (with_reducible refine Kd.C_drewN ?_ _) | (with_reducible refine Kd.C_drew ?_))); (case side2 => exact HC231_1.out); rintro e w49 ⟨rfl, hb⟩; refine ⟨_, rfl, ?_⟩; have n0_ := Aside0.mk (blk_below (g := gb220) (o := .cells #[.slice (some ad230) l0_0.length c0_0, .slice A0_1 l0_1.length c0_1] 26 (0, 0)) (by (with_reducible repeat (first | refine blk_drewN ?_ _ | refine blk_drew ?_ | refine blk_alloc ?_ _)); exact qk1.out) hb); have n1_ := Aside0.mk (below_step (by repeat (first | (with_reducible first | exact HB.out | apply below_alloc | apply pw_below_drewN | apply below_drew1 | refine below_set ?_ qj1.out) | exact HB.out)) hb); clear qk1; clear HB; have qk1 := n0_; have HB := n1_; clear n0_ n1_; (try clear hb); (try clear hb2); (try clear hk); (try clear hi)))
               go_roundg k3
               case measure => have := HK1.out; have := HK2.out; have := HK3.out; omega
               case rel => exact ⟨(wrap64 (x6_3 + 1)), (by first | rfl | (simp; done) | (simp [*]; done)), H', ⟨by have := HK1.out; have := HK2.out; have := HK3.out; omega⟩, ⟨by (with_reducible repeat (first | refine blk_drewN ?_ _ | refine blk_drew ?_ | refine blk_alloc ?_ _)); exact qk1.out⟩, ⟨by repeat (first | (with_reducible first | exact HB.out | apply below_alloc | apply pw_below_drewN | apply below_drew1 | refine below_set ?_ qj1.out) | exact HB.out)⟩⟩
             ·rw [if_neg c43] at H
              have c43b0 : decide (x6_3 < (((rd_T42 l0_0 x5_2).f1).length : Int)) = false := decide_eq_false c43
              clear c43
              have H' := Aside0.mk H
              clear H
              have hcz50_0 : wr.cell? ⟨gb220, 0, none⟩ = some (.slice A0_0 l0_0.length c0_0) := (blk_cell qk1.out 0).trans rfl
              have hcz50_1 : wr.cell? ⟨gb220, 1, none⟩ = some (.slice A0_1 l0_1.length c0_1) := (blk_cell qk1.out 1).trans rfl
              have hfz50_0 := blk_frozen qk1.out 0
              have hfz50_1 := blk_frozen qk1.out 1
              have p230 : 0 ≤ (x5_2 : Int) := of_decide_eq_true (by assumption)
              have q230 : x5_2 < (l0_0.length : Int) := of_decide_eq_true (by assumption)
              obtain ⟨ad230, A230_1, c230_1, e230, qp, ql, hl230_1, hi230_1⟩ := at_T42 HR0_0.out x5_2 p230 q230
              cases e230
              replace qp := pw_cell_below HB.out qp
              replace ql := pw_cell_below HB.out ql
              have HR230_1 := Aside0.mk hi230_1
              have HC230_1 := Aside0.mk hl230_1
              clear hi230_1 hl230_1
              replace p230 := eq_true p230
              replace q230 := eq_true q230
              go_wp2
              go_roundg k3
              case measure => have := HK1.out; have := HK2.out; have := HK3.out; omega
              case rel => exact ⟨(wrap64 (x5_2 + 1)), (by first | rfl | (simp; done) | (simp [*]; done)), H', ⟨by have := HK1.out; have := HK2.out; have := HK3.out; omega⟩, ⟨by (with_reducible repeat (first | refine blk_drewN ?_ _ | refine blk_drew ?_ | refine blk_alloc ?_ _)); exact qk1.out⟩, ⟨by repeat (first | (with_reducible first | exact HB.out | apply below_alloc | apply pw_below_drewN | apply below_drew1 | refine below_set ?_ qj1.out) | exact HB.out)⟩⟩
            ·rw [if_neg c42] at H
             exact absurd H (by simp)
           ·rw [if_neg c41] at H
            exact absurd H (by simp)
        ·rw [if_neg c39] at H
         have c39b0 : decide (x5_2 < (l0_0.length : Int)) = false := decide_eq_false c39
         clear c39
         have H' := Aside0.mk H
         clear H
         have hcz51_0 : wr.cell? ⟨gb220, 0, none⟩ = some (.slice A0_0 l0_0.length c0_0) := (blk_cell qk1.out 0).trans rfl
         have hcz51_1 : wr.cell? ⟨gb220, 1, none⟩ = some (.slice A0_1 l0_1.length c0_1) := (blk_cell qk1.out 1).trans rfl
         have hfz51_0 := blk_frozen qk1.out 0
         have hfz51_1 := blk_frozen qk1.out 1
         go_wp2
         go_loopg [7] k2 (fun kq v7 w' => ∃ (x7_3 : Int), v7 = .int .i64 x7_3 ∧ Aside0 (spec_IdlCheck.l4 kq x7_3 l0_0 l0_1 = some r) ∧ Aside0 (kq ≤ k2) ∧ Aside0 (w'.heap[gb220]? = some (.cells #[(.slice A0_0 l0_0.length c0_0), (.slice A0_1 l0_1.length c0_1)] 26 (0, 0))) ∧ Aside0 (Below w.heap.size w w'))
         case atStart => exact ⟨(0), (by first | rfl | (simp; done) | (simp [*]; done)), H', ⟨Nat.le_refl _⟩, ⟨by (with_reducible repeat (first | refine blk_drewN ?_ _ | refine blk_drew ?_ | refine blk_alloc ?_ _)); exact qk1.out⟩, ⟨by repeat (first | (with_reducible first | exact HB.out | apply below_alloc | apply pw_below_drewN | apply below_drew1 | refine below_set ?_ qj1.out) | exact HB.out)⟩⟩
         case round =>
          clear H'
          try clear c1
          try clear c2
          try clear p2
          try clear q2
          try clear hx2
          try clear c3
          try clear c4
          try clear p6
          try clear c16
          try clear c16b0
          try clear c18
          try clear c19
          try clear c20
          try clear c20b0
          try clear c21
          try clear c22
          try clear p22
          try clear q22
          try clear hx22
          try clear c23
          try clear p23
          try clear q23
          try clear hx23
          try clear c28
          try clear c28b0
          try clear c28b1
          try clear c32
          try clear c33
          try clear c39
          try clear c39b0
          try clear c41
          try clear c41b0
          try clear c42
          try clear c42b0
          try clear c43
          try clear c43b0
          try clear c45
          try clear c45b0
          try clear hcz33_0
          try clear hcz33_1
          try clear hcz37_0
          try clear hcz37_1
          try clear hcz38_0
          try clear hcz38_1
          try clear hcz40_0
          try clear hcz40_1
          try clear hcz46_0
          try clear hcz46_1
          try clear hcz48_0
          try clear hcz48_1
          try clear hcz50_0
          try clear hcz50_1
          try clear hcz51_0
          try clear hcz51_1
          try clear hfz33_0
          try clear hfz33_1
          try clear hfz37_0
          try clear hfz37_1
          try clear hfz38_0
          try clear hfz38_1
          try clear hfz40_0
          try clear hfz40_1
          try clear hfz46_0
          try clear hfz46_1
          try clear hfz48_0
          try clear hfz48_1
          try clear hfz50_0
          try clear hfz50_1
          try clear hfz51_0
          try clear hfz51_1
          try clear qi
          try clear qg
          try clear qd
          try clear qr
          try clear qa
          try clear qy
          try clear qb
          try clear qm
          try clear qn
          try clear qg1
          try clear qb1
          try clear qa1
          try clear qo
          try clear qh1
          try clear qw
          try clear qc1
          try clear qv
          try clear qe1
          try clear qp
          try clear ql
          try clear qx
          try clear qz
          try clear p2
          try clear p22
          try clear p223
          try clear p224
          try clear p225
          try clear p227
          try clear p228
          try clear p230
          try clear p231
          try clear p6
          try clear q2
          try clear q22
          try clear q223
          try clear q224
          try clear q225
          try clear q227
          try clear q228
          try clear q230
          try clear q231
          obtain ⟨x7_3, rfl, HA, HK3, qk1, HB⟩ := hrel
          cases gk with
          | zero => exact absurd HA.out (by simp [spec_IdlCheck.l4])
          | succ k3 =>
           have H := HA.out
           clear HA
           simp only [spec_IdlCheck.l4] at H
           by_cases c52 : x7_3 < (l0_0.length : Int)
           ·rw [if_pos c52] at H
            have c52b0 : decide (x7_3 < (l0_0.length : Int)) = true := decide_eq_true c52
            clear c52
            have H' := Aside0.mk H
            clear H
            have hcz53_0 : wr.cell? ⟨gb220, 0, none⟩ = some (.slice A0_0 l0_0.length c0_0) := (blk_cell qk1.out 0).trans rfl
            have hcz53_1 : wr.cell? ⟨gb220, 1, none⟩ = some (.slice A0_1 l0_1.length c0_1) := (blk_cell qk1.out 1).trans rfl
            have hfz53_0 := blk_frozen qk1.out 0
            have hfz53_1 := blk_frozen qk1.out 1
            go_wp2
            go_loopg [8] k3 (fun kq v8 w' => ∃ (x8_4 : Int), v8 = .int .i64 x8_4 ∧ Aside0 (spec_IdlCheck.l5 kq x7_3 x8_4 l0_0 l0_1 = some r) ∧ Aside0 (kq ≤ k3) ∧ Aside0 (w'.heap[gb220]? = some (.cells #[(.slice A0_0 l0_0.length c0_0), (.slice A0_1 l0_1.length c0_1)] 26 (0, 0))) ∧ Aside0 (Below w.heap.size w w'))
            case atStart => exact ⟨(0), (by first | rfl | (simp; done) | (simp [*]; done)), H', ⟨Nat.le_refl _⟩, ⟨by (with_reducible repeat (first | refine blk_drewN ?_ _ | refine blk_drew ?_ | refine blk_alloc ?_ _)); exact qk1.out⟩, ⟨by repeat (first | (with_reducible first | exact HB.out | apply below_alloc | apply pw_below_drewN | apply below_drew1 | refine below_set ?_ qj1.out) | exact HB.out)⟩⟩
            case round =>
             clear H'
             try clear c1
             try clear c2
             try clear p2
             try clear q2
             try clear hx2
             try clear c3
             try clear c4
             try clear c5
             try clear p6
             try clear c16
             try clear c16b0
             try clear c18
             try clear c19
             try clear c20
             try clear c20b0
             try clear c21
             try clear c22
             try clear p22
             try clear q22
             try clear hx22
             try clear c23
             try clear p23
             try clear q23
             try clear hx23
             try clear c28
             try clear c28b0
             try clear c28b1
             try clear c32
             try clear c33
             try clear c39
             try clear c39b0
             try clear c41
             try clear c41b0
             try clear c42
             try clear c42b0
             try clear c43
             try clear c43b0
             try clear c45
             try clear c45b0
             try clear c52
             try clear c52b0
             try clear hcz33_0
             try clear hcz33_1
             try clear hcz37_0
             try clear hcz37_1
             try clear hcz38_0
             try clear hcz38_1
             try clear hcz40_0
             try clear hcz40_1
             try clear hcz46_0
             try clear hcz46_1
             try clear hcz48_0
             try clear hcz48_1
             try clear hcz50_0
             try clear hcz50_1
             try clear hcz51_0
             try clear hcz51_1
             try clear hcz53_0
             try clear hcz53_1
             try clear hfz33_0
             try clear hfz33_1
             try clear hfz37_0
             try clear hfz37_1
             try clear hfz38_0
             try clear hfz38_1
             try clear hfz40_0
             try clear hfz40_1
             try clear hfz46_0
             try clear hfz46_1
             try clear hfz48_0
             try clear hfz48_1
             try clear hfz50_0
             try clear hfz50_1
             try clear hfz51_0
             try clear hfz51_1
             try clear hfz53_0
             try clear hfz53_1
             try clear qi
             try clear qg
             try clear qd
             try clear qr
             try clear qa
             try clear qy
             try clear qb
             try clear qm
             try clear qn
             try clear qg1
             try clear qb1
             try clear qa1
             try clear qo
             try clear qh1
             try clear qw
             try clear qc1
             try clear qv
             try clear qe1
             try clear qp
             try clear ql
             try clear qx
             try clear qz
             try clear p2
             try clear p22
             try clear p223
             try clear p224
             try clear p225
             try clear p227
             try clear p228
             try clear p23
             try clear p230
             try clear p231
             try clear p6
             try clear q2
             try clear q22
             try clear q223
             try clear q224
             try clear q225
             try clear q227
             try clear q228
             try clear q23
             try clear q230
             try clear q231
             obtain ⟨x8_4, rfl, HA, HK4, qk1, HB⟩ := hrel
             cases gk with
             | zero => exact absurd HA.out (by simp [spec_IdlCheck.l5])
             | succ k4 =>
              have H := HA.out
              clear HA
              simp only [spec_IdlCheck.l5] at H
              by_cases c54 : 0 ≤ x7_3
              ·rw [if_pos c54] at H
               have c54b0 : decide (0 ≤ x7_3) = true := decide_eq_true c54
               clear c54
               by_cases c55 : x7_3 < (l0_0.length : Int)
               ·rw [if_pos c55] at H
                have c55b0 : decide (x7_3 < (l0_0.length : Int)) = true := decide_eq_true c55
                clear c55
                by_cases c56 : x8_4 < (((rd_T42 l0_0 x7_3).f1).length : Int)
                ·rw [if_pos c56] at H
                 have c56b0 : decide (x8_4 < (((rd_T42 l0_0 x7_3).f1).length : Int)) = true := decide_eq_true c56
                 clear c56
                 by_cases c57 : 0 ≤ x8_4
                 ·rw [if_pos c57] at H
                  have c57b0 : decide (0 ≤ x8_4) = true := decide_eq_true c57
                  clear c57
                  replace H := Option.bind_eq_some_iff.mp H
                  obtain ⟨t236, A580, H⟩ := H
                  replace H : (if t236 = true then (spec_IdlCheck.l5 k4 x7_3 (wrap64 (x8_4 + 1)) l0_0 l0_1) else (some 5)) = some r := H
                  have A58 := Aside0.mk A580
                  clear A580
                  by_cases c59 : t236 = true
                  ·subst c59
                   have H1 : (spec_IdlCheck.l5 k4 x7_3 (wrap64 (x8_4 + 1)) l0_0 l0_1) = some r := by rw [if_pos rfl] at H; exact H
                   clear H
                   have H := H1
                   clear H1
                   have H' := Aside0.mk H
                   clear H
                   have hcz60_0 : wr.cell? ⟨gb220, 0, none⟩ = some (.slice A0_0 l0_0.length c0_0) := (blk_cell qk1.out 0).trans rfl
                   have hcz60_1 : wr.cell? ⟨gb220, 1, none⟩ = some (.slice A0_1 l0_1.length c0_1) := (blk_cell qk1.out 1).trans rfl
                   have hfz60_0 := blk_frozen qk1.out 0
                   have hfz60_1 := blk_frozen qk1.out 1
                   have p233 : 0 ≤ (x7_3 : Int) := of_decide_eq_true (by assumption)
                   have q233 : x7_3 < (l0_0.length : Int) := of_decide_eq_true (by assumption)
                   obtain ⟨ad233, A233_1, c233_1, e233, qe, qf, hl233_1, hi233_1⟩ := at_T42 HR0_0.out x7_3 p233 q233
                   cases e233
                   replace qe := pw_cell_below HB.out qe
                   replace qf := pw_cell_below HB.out qf
                   have HR233_1 := Aside0.mk hi233_1
                   have HC233_1 := Aside0.mk hl233_1
                   clear hi233_1 hl233_1
                   replace p233 := eq_true p233
                   replace q233 := eq_true q233
                   try go_wp2
                   have n0_ := Aside0.mk (blk_drew qk1.out)
                   have n1_ := Aside0.mk (below_drew1 HB.out)
                   clear qk1
                   clear HB
                   have qk1 := n0_
                   have HB := n1_
                   clear n0_ n1_
                   have p234 : 0 ≤ (x7_3 : Int) := of_decide_eq_true (by assumption)
                   have q234 : x7_3 < (l0_0.length : Int) := of_decide_eq_true (by assumption)
                   obtain ⟨ad234, A234_1, c234_1, e234, qf1, qq, hl234_1, hi234_1⟩ := at_T42 HR0_0.out x7_3 p234 q234
                   have hw234_1 := qq
                   have hw234_0 := qf1
                   obtain rfl : ad233 = ad234 := (by injection e234)
                   replace qf1 := pw_cell_below HB.out qf1
                   replace qq := pw_cell_below HB.out qq
                   have HR234_1 := Aside0.mk hi234_1
                   have HC234_1 := Aside0.mk hl234_1
                   clear hi234_1 hl234_1
                   replace p234 := eq_true p234
                   replace q234 := eq_true q234
                   have p235 : 0 ≤ (x8_4 : Int) := of_decide_eq_true (by assumption)
                   have q235 : x8_4 < (((rd_T42 l0_0 x7_3).f1).length : Int) := of_decide_eq_true (by assumption)
                   obtain ⟨ad235, e235, qc, qd1, qj, qs, qk, qt⟩ := at_T46 HR234_1.out x8_4 p235 q235
                   have hw235_5 := qt
                   have hw235_4 := qk
                   have hw235_3 := qs
                   have hw235_2 := qj
                   have hw235_1 := qd1
                   have hw235_0 := qc
                   cases e235
                   replace qc := pw_cell_below HB.out qc
                   replace qd1 := pw_cell_below HB.out qd1
                   replace qj := pw_cell_below HB.out qj
                   replace qs := pw_cell_below HB.out qs
                   replace qk := pw_cell_below HB.out qk
                   replace qt := pw_cell_below HB.out qt
                   replace p235 := eq_true p235
                   replace q235 := eq_true q235
                   refine start_ (n := 12) (S := fun w' => w'.cell? ⟨gb220, 0, none⟩ = some (.slice (some ad233) l0_0.length c0_0) ∧ w'.cell? ⟨gb220, 1, none⟩ = some (.slice A0_1 l0_1.length c0_1) ∧ w'.cell? (ad233.add ((x7_3).toNat * 2)) = some (.string ((rd_T42 l0_0 x7_3).f0)) ∧ w'.cell? ⟨(ad233.add ((x7_3).toNat * 2)).block, (ad233.add ((x7_3).toNat * 2)).off + 1, none⟩ = some (.slice (some ad235) ((rd_T42 l0_0 x7_3).f1).length c234_1) ∧ w'.cell? (ad235.add ((x8_4).toNat * 6)) = some (.string ((rd_T46 ((rd_T42 l0_0 x7_3).f1) x8_4).f0)) ∧ w'.cell? ⟨(ad235.add ((x8_4).toNat * 6)).block, (ad235.add ((x8_4).toNat * 6)).off + 1, none⟩ = some (.int .i64 ((rd_T46 ((rd_T42 l0_0 x7_3).f1) x8_4).f1)) ∧ w'.cell? ⟨(ad235.add ((x8_4).toNat * 6)).block, (ad235.add ((x8_4).toNat * 6)).off + 2, none⟩ = some (.string ((rd_T46 ((rd_T42 l0_0 x7_3).f1) x8_4).f2.f0)) ∧ w'.cell? ⟨(ad235.add ((x8_4).toNat * 6)).block, (ad235.add ((x8_4).toNat * 6)).off + 3, none⟩ = some (.bool ((rd_T46 ((rd_T42 l0_0 x7_3).f1) x8_4).f2.f1)) ∧ w'.cell? ⟨(ad235.add ((x8_4).toNat * 6)).block, (ad235.add ((x8_4).toNat * 6)).off + 4, none⟩ = some (.bool ((rd_T46 ((rd_T42 l0_0 x7_3).f1) x8_4).f3)) ∧ w'.cell? ⟨(ad235.add ((x8_4).toNat * 6)).block, (ad235.add ((x8_4).toNat * 6)).off + 5, none⟩ = some (.int .i64 ((rd_T46 ((rd_T42 l0_0 x7_3).f1) x8_4).f4))) (ds := []) #[false, false, false, false, false, false, false, false, false, false, false, false] (by kernel_rfl) rfl rfl ⟨(blk_cell qk1.out 0).trans rfl, (blk_cell qk1.out 1).trans rfl, (pw_cell_below HB.out hw234_0), (pw_cell_below HB.out hw234_1), (pw_cell_below HB.out hw235_0), (pw_cell_below HB.out hw235_1), (pw_cell_below HB.out hw235_2), (pw_cell_below HB.out hw235_3), (pw_cell_below HB.out hw235_4), (pw_cell_below HB.out hw235_5)⟩ (fun hHeld => ?_); refine with_tabW spec_IdlCheck.tab27 spec_IdlCheck.bits27 (fun HT_ HW_ => ?_)
                   generalize wr.drew = w61 at qk1 HB HR234_1 qf1 qq qc qd1 qj qs qk qt hHeld ⊢
                   refine pu_ 1 (some 107) rfl ?_
                   refine pu_ 3 (some 109) rfl ?_
                   refine pu_ 7 (some 113) rfl ?_
                   refine tk_ 0 (some 106) rfl hHeld ?_
                   refine tk_ 2 (some 108) rfl hHeld ?_
                   refine pu_ 4 (some 110) rfl ?_
                   refine pu_ 5 (some 111) rfl ?_
                   refine tk_ 6 (some 112) rfl hHeld ?_
                   refine pu_ 8 (some 114) rfl ?_
                   refine tk_ 9 (some 115) rfl hHeld ?_
                   refine on_ 10 (some 116) rfl (fun K hK => ?_)
                   refine goes_ Tryz.func34 (by kernel_rfl) rfl #[.agg #[.slice (some ad233) l0_0.length c0_0, .slice A0_1 l0_1.length c0_1], .agg #[.string ((rd_T46 ((rd_T42 l0_0 x7_3).f1) x8_4).f0), .int .i64 ((rd_T46 ((rd_T42 l0_0 x7_3).f1) x8_4).f1), .string ((rd_T46 ((rd_T42 l0_0 x7_3).f1) x8_4).f2.f0), .bool ((rd_T46 ((rd_T42 l0_0 x7_3).f1) x8_4).f2.f1), .bool ((rd_T46 ((rd_T42 l0_0 x7_3).f1) x8_4).f3), .int .i64 ((rd_T46 ((rd_T42 l0_0 x7_3).f1) x8_4).f4)]] (by rfl) rfl rfl (by (try simp only [List.map_toArray, List.map_cons, List.map_nil]); first | done | rfl | (simp only [List.length_drop, List.length_take]; rfl)) ?_
                   with_reducible refine (spec_l9Else.calls k4 _ _ l0_0 _ _ l0_1 ((rd_T46 ((rd_T42 l0_0 x7_3).f1) x8_4).f0) ((rd_T46 ((rd_T42 l0_0 x7_3).f1) x8_4).f1) ((rd_T46 ((rd_T42 l0_0 x7_3).f1) x8_4).f2.f0) ((rd_T46 ((rd_T42 l0_0 x7_3).f1) x8_4).f2.f1) ((rd_T46 ((rd_T42 l0_0 x7_3).f1) x8_4).f3) ((rd_T46 ((rd_T42 l0_0 x7_3).f1) x8_4).f4) true _ ?side1 ?side2 ?side3 ?side4 A58.out).mono ?_
                   (case side1 => repeat (first | exact (Kd.C_below HR0_0.out HB.out) | (with_reducible refine Kd.C_alloc ?_ _) | (with_reducible refine Kd.C_drewN ?_ _) | (with_reducible refine Kd.C_drew ?_)))
                   (case side2 => exact HC0_0.out)
                   (case side3 => repeat (first | exact (Kd.C_below HR0_1.out HB.out) | (with_reducible refine Kd.C_alloc ?_ _) | (with_reducible refine Kd.C_drewN ?_ _) | (with_reducible refine Kd.C_drew ?_)))
                   (case side4 => exact HC0_1.out)
                   rintro e w62 ⟨rfl, hb⟩
                   refine ⟨_, rfl, ?_⟩
                   have n0_ := Aside0.mk (blk_below (g := gb220) (o := .cells #[.slice (some ad233) l0_0.length c0_0, .slice A0_1 l0_1.length c0_1] 26 (0, 0)) (by (with_reducible repeat (first | refine blk_drewN ?_ _ | refine blk_drew ?_ | refine blk_alloc ?_ _)); exact qk1.out) hb)
                   have n1_ := Aside0.mk (below_step (by repeat (first | (with_reducible first | exact HB.out | apply below_alloc | apply pw_below_drewN | apply below_drew1 | refine below_set ?_ qj1.out) | exact HB.out)) hb)
                   clear qk1
                   clear HB
                   have qk1 := n0_
                   have HB := n1_
                   clear n0_ n1_
                   (try clear hb)
                   (try clear hb2)
                   (try clear hk)
                   (try clear hi)
                   refine hK.out _ _ ⟨(blk_cell qk1.out 0).trans rfl, (blk_cell qk1.out 1).trans rfl, (pw_cell_below HB.out hw234_0), (pw_cell_below HB.out hw234_1), (pw_cell_below HB.out hw235_0), (pw_cell_below HB.out hw235_1), (pw_cell_below HB.out hw235_2), (pw_cell_below HB.out hw235_3), (pw_cell_below HB.out hw235_4), (pw_cell_below HB.out hw235_5)⟩ (fun hHeld => ?_)
                   clear hK K
                   refine no_ 116 ?_
                   refine pu_ 11 (some 117) rfl ?_
                   refine done_ (done_of HT_.out (by kernel_rfl)) ?_
                   try go_wp2
                   go_roundg k4
                   case measure => have := HK1.out; have := HK2.out; have := HK3.out; have := HK4.out; omega
                   case rel => exact ⟨(wrap64 (x8_4 + 1)), (by first | rfl | (simp; done) | (simp [*]; done)), H', ⟨by have := HK1.out; have := HK2.out; have := HK3.out; have := HK4.out; omega⟩, ⟨by (with_reducible repeat (first | refine blk_drewN ?_ _ | refine blk_drew ?_ | refine blk_alloc ?_ _)); exact qk1.out⟩, ⟨by repeat (first | (with_reducible first | exact HB.out | apply below_alloc | apply pw_below_drewN | apply below_drew1 | refine below_set ?_ qj1.out) | exact HB.out)⟩⟩
                  ·replace c59 := Bool.eq_false_iff.mpr c59
                   subst c59
                   have H1 : (some 5) = some r := by rw [if_neg (show ¬ (false = true) by decide)] at H; exact H
                   clear H
                   have H := H1
                   clear H1
                   obtain rfl := Option.some.inj H
                   have hcz63_0 : wr.cell? ⟨gb220, 0, none⟩ = some (.slice A0_0 l0_0.length c0_0) := (blk_cell qk1.out 0).trans rfl
                   have hcz63_1 : wr.cell? ⟨gb220, 1, none⟩ = some (.slice A0_1 l0_1.length c0_1) := (blk_cell qk1.out 1).trans rfl
                   have hfz63_0 := blk_frozen qk1.out 0
                   have hfz63_1 := blk_frozen qk1.out 1
                   have p233 : 0 ≤ (x7_3 : Int) := of_decide_eq_true (by assumption)
                   have q233 : x7_3 < (l0_0.length : Int) := of_decide_eq_true (by assumption)
                   obtain ⟨ad233, A233_1, c233_1, e233, qe, qf, hl233_1, hi233_1⟩ := at_T42 HR0_0.out x7_3 p233 q233
                   cases e233
                   replace qe := pw_cell_below HB.out qe
                   replace qf := pw_cell_below HB.out qf
                   have HR233_1 := Aside0.mk hi233_1
                   have HC233_1 := Aside0.mk hl233_1
                   clear hi233_1 hl233_1
                   replace p233 := eq_true p233
                   replace q233 := eq_true q233
                   try go_wp2
                   have n0_ := Aside0.mk (blk_drew qk1.out)
                   have n1_ := Aside0.mk (below_drew1 HB.out)
                   clear qk1
                   clear HB
                   have qk1 := n0_
                   have HB := n1_
                   clear n0_ n1_
                   have p234 : 0 ≤ (x7_3 : Int) := of_decide_eq_true (by assumption)
                   have q234 : x7_3 < (l0_0.length : Int) := of_decide_eq_true (by assumption)
                   obtain ⟨ad234, A234_1, c234_1, e234, qf1, qq, hl234_1, hi234_1⟩ := at_T42 HR0_0.out x7_3 p234 q234
                   have hw234_1 := qq
                   have hw234_0 := qf1
                   obtain rfl : ad233 = ad234 := (by injection e234)
                   replace qf1 := pw_cell_below HB.out qf1
                   replace qq := pw_cell_below HB.out qq
                   have HR234_1 := Aside0.mk hi234_1
                   have HC234_1 := Aside0.mk hl234_1
                   clear hi234_1 hl234_1
                   replace p234 := eq_true p234
                   replace q234 := eq_true q234
                   have p235 : 0 ≤ (x8_4 : Int) := of_decide_eq_true (by assumption)
                   have q235 : x8_4 < (((rd_T42 l0_0 x7_3).f1).length : Int) := of_decide_eq_true (by assumption)
                   obtain ⟨ad235, e235, qc, qd1, qj, qs, qk, qt⟩ := at_T46 HR234_1.out x8_4 p235 q235
                   have hw235_5 := qt
                   have hw235_4 := qk
                   have hw235_3 := qs
                   have hw235_2 := qj
                   have hw235_1 := qd1
                   have hw235_0 := qc
                   cases e235
                   replace qc := pw_cell_below HB.out qc
                   replace qd1 := pw_cell_below HB.out qd1
                   replace qj := pw_cell_below HB.out qj
                   replace qs := pw_cell_below HB.out qs
                   replace qk := pw_cell_below HB.out qk
                   replace qt := pw_cell_below HB.out qt
                   replace p235 := eq_true p235
                   replace q235 := eq_true q235
                   refine start_ (n := 12) (S := fun w' => w'.cell? ⟨gb220, 0, none⟩ = some (.slice (some ad233) l0_0.length c0_0) ∧ w'.cell? ⟨gb220, 1, none⟩ = some (.slice A0_1 l0_1.length c0_1) ∧ w'.cell? (ad233.add ((x7_3).toNat * 2)) = some (.string ((rd_T42 l0_0 x7_3).f0)) ∧ w'.cell? ⟨(ad233.add ((x7_3).toNat * 2)).block, (ad233.add ((x7_3).toNat * 2)).off + 1, none⟩ = some (.slice (some ad235) ((rd_T42 l0_0 x7_3).f1).length c234_1) ∧ w'.cell? (ad235.add ((x8_4).toNat * 6)) = some (.string ((rd_T46 ((rd_T42 l0_0 x7_3).f1) x8_4).f0)) ∧ w'.cell? ⟨(ad235.add ((x8_4).toNat * 6)).block, (ad235.add ((x8_4).toNat * 6)).off + 1, none⟩ = some (.int .i64 ((rd_T46 ((rd_T42 l0_0 x7_3).f1) x8_4).f1)) ∧ w'.cell? ⟨(ad235.add ((x8_4).toNat * 6)).block, (ad235.add ((x8_4).toNat * 6)).off + 2, none⟩ = some (.string ((rd_T46 ((rd_T42 l0_0 x7_3).f1) x8_4).f2.f0)) ∧ w'.cell? ⟨(ad235.add ((x8_4).toNat * 6)).block, (ad235.add ((x8_4).toNat * 6)).off + 3, none⟩ = some (.bool ((rd_T46 ((rd_T42 l0_0 x7_3).f1) x8_4).f2.f1)) ∧ w'.cell? ⟨(ad235.add ((x8_4).toNat * 6)).block, (ad235.add ((x8_4).toNat * 6)).off + 4, none⟩ = some (.bool ((rd_T46 ((rd_T42 l0_0 x7_3).f1) x8_4).f3)) ∧ w'.cell? ⟨(ad235.add ((x8_4).toNat * 6)).block, (ad235.add ((x8_4).toNat * 6)).off + 5, none⟩ = some (.int .i64 ((rd_T46 ((rd_T42 l0_0 x7_3).f1) x8_4).f4))) (ds := []) #[false, false, false, false, false, false, false, false, false, false, false, false] (by kernel_rfl) rfl rfl ⟨(blk_cell qk1.out 0).trans rfl, (blk_cell qk1.out 1).trans rfl, (pw_cell_below HB.out hw234_0), (pw_cell_below HB.out hw234_1), (pw_cell_below HB.out hw235_0), (pw_cell_below HB.out hw235_1), (pw_cell_below HB.out hw235_2), (pw_cell_below HB.out hw235_3), (pw_cell_below HB.out hw235_4), (pw_cell_below HB.out hw235_5)⟩ (fun hHeld => ?_); refine with_tabW spec_IdlCheck.tab27 spec_IdlCheck.bits27 (fun HT_ HW_ => ?_)
                   generalize wr.drew = w64 at qk1 HB HR234_1 qf1 qq qc qd1 qj qs qk qt hHeld ⊢
                   refine pu_ 1 (some 107) rfl ?_
                   refine pu_ 3 (some 109) rfl ?_
                   refine pu_ 7 (some 113) rfl ?_
                   refine tk_ 0 (some 106) rfl hHeld ?_
                   refine tk_ 2 (some 108) rfl hHeld ?_
                   refine pu_ 4 (some 110) rfl ?_
                   refine pu_ 5 (some 111) rfl ?_
                   refine tk_ 6 (some 112) rfl hHeld ?_
                   refine pu_ 8 (some 114) rfl ?_
                   refine tk_ 9 (some 115) rfl hHeld ?_
                   refine on_ 10 (some 116) rfl (fun K hK => ?_)
                   refine goes_ Tryz.func34 (by kernel_rfl) rfl #[.agg #[.slice (some ad233) l0_0.length c0_0, .slice A0_1 l0_1.length c0_1], .agg #[.string ((rd_T46 ((rd_T42 l0_0 x7_3).f1) x8_4).f0), .int .i64 ((rd_T46 ((rd_T42 l0_0 x7_3).f1) x8_4).f1), .string ((rd_T46 ((rd_T42 l0_0 x7_3).f1) x8_4).f2.f0), .bool ((rd_T46 ((rd_T42 l0_0 x7_3).f1) x8_4).f2.f1), .bool ((rd_T46 ((rd_T42 l0_0 x7_3).f1) x8_4).f3), .int .i64 ((rd_T46 ((rd_T42 l0_0 x7_3).f1) x8_4).f4)]] (by rfl) rfl rfl (by (try simp only [List.map_toArray, List.map_cons, List.map_nil]); first | done | rfl | (simp only [List.length_drop, List.length_take]; rfl)) ?_
                   with_reducible refine (spec_l9Else.calls k4 _ _ l0_0 _ _ l0_1 ((rd_T46 ((rd_T42 l0_0 x7_3).f1) x8_4).f0) ((rd_T46 ((rd_T42 l0_0 x7_3).f1) x8_4).f1) ((rd_T46 ((rd_T42 l0_0 x7_3).f1) x8_4).f2.f0) ((rd_T46 ((rd_T42 l0_0 x7_3).f1) x8_4).f2.f1) ((rd_T46 ((rd_T42 l0_0 x7_3).f1) x8_4).f3) ((rd_T46 ((rd_T42 l0_0 x7_3).f1) x8_4).f4) false _ ?side1 ?side2 ?side3 ?side4 A58.out).mono ?_
                   (case side1 => repeat (first | exact (Kd.C_below HR0_0.out HB.out) | (with_reducible refine Kd.C_alloc ?_ _) | (with_reducible refine Kd.C_drewN ?_ _) | (with_reducible refine Kd.C_drew ?_)))
                   (case side2 => exact HC0_0.out)
                   (case side3 => repeat (first | exact (Kd.C_below HR0_1.out HB.out) | (with_reducible refine Kd.C_alloc ?_ _) | (with_reducible refine Kd.C_drewN ?_ _) | (with_reducible refine Kd.C_drew ?_)))
                   (case side4 => exact HC0_1.out)
                   rintro e w65 ⟨rfl, hb⟩
                   refine ⟨_, rfl, ?_⟩
                   have n0_ := Aside0.mk (blk_below (g := gb220) (o := .cells #[.slice (some ad233) l0_0.length c0_0, .slice A0_1 l0_1.length c0_1] 26 (0, 0)) (by (with_reducible repeat (first | refine blk_drewN ?_ _ | refine blk_drew ?_ | refine blk_alloc ?_ _)); exact qk1.out) hb)
                   have n1_ := Aside0.mk (below_step (by repeat (first | (with_reducible first | exact HB.out | apply below_alloc | apply pw_below_drewN | apply below_drew1 | refine below_set ?_ qj1.out) | exact HB.out)) hb)
                   clear qk1
                   clear HB
                   have qk1 := n0_
                   have HB := n1_
                   clear n0_ n1_
                   (try clear hb)
                   (try clear hb2)
                   (try clear hk)
                   (try clear hi)
                   refine hK.out _ _ ⟨(blk_cell qk1.out 0).trans rfl, (blk_cell qk1.out 1).trans rfl, (pw_cell_below HB.out hw234_0), (pw_cell_below HB.out hw234_1), (pw_cell_below HB.out hw235_0), (pw_cell_below HB.out hw235_1), (pw_cell_below HB.out hw235_2), (pw_cell_below HB.out hw235_3), (pw_cell_below HB.out hw235_4), (pw_cell_below HB.out hw235_5)⟩ (fun hHeld => ?_)
                   clear hK K
                   refine no_ 116 ?_
                   refine pu_ 11 (some 117) rfl ?_
                   refine done_ (done_of HT_.out (by kernel_rfl)) ?_
                   try go_wp2
                   go_ret
                   exact ⟨by first | rfl | (simp [errW_none, errW_some] <;> rfl) | (simp [*, errW_none, errW_some] <;> rfl) | (simp only [Bool.and_eq_true, beq_iff_eq, Bool.not_eq_true', Bool.not_eq_eq_eq_not, Bool.not_true, Bool.not_false] at *; simp [*]), by repeat (first | (with_reducible first | exact HB.out | apply below_alloc | apply pw_below_drewN | apply below_drew1 | refine below_set ?_ qj1.out) | exact HB.out)⟩
                 ·rw [if_neg c57] at H
                  exact absurd H (by simp)
                ·rw [if_neg c56] at H
                 have c56b0 : decide (x8_4 < (((rd_T42 l0_0 x7_3).f1).length : Int)) = false := decide_eq_false c56
                 clear c56
                 have H' := Aside0.mk H
                 clear H
                 have hcz66_0 : wr.cell? ⟨gb220, 0, none⟩ = some (.slice A0_0 l0_0.length c0_0) := (blk_cell qk1.out 0).trans rfl
                 have hcz66_1 : wr.cell? ⟨gb220, 1, none⟩ = some (.slice A0_1 l0_1.length c0_1) := (blk_cell qk1.out 1).trans rfl
                 have hfz66_0 := blk_frozen qk1.out 0
                 have hfz66_1 := blk_frozen qk1.out 1
                 have p233 : 0 ≤ (x7_3 : Int) := of_decide_eq_true (by assumption)
                 have q233 : x7_3 < (l0_0.length : Int) := of_decide_eq_true (by assumption)
                 obtain ⟨ad233, A233_1, c233_1, e233, qe, qf, hl233_1, hi233_1⟩ := at_T42 HR0_0.out x7_3 p233 q233
                 cases e233
                 replace qe := pw_cell_below HB.out qe
                 replace qf := pw_cell_below HB.out qf
                 have HR233_1 := Aside0.mk hi233_1
                 have HC233_1 := Aside0.mk hl233_1
                 clear hi233_1 hl233_1
                 replace p233 := eq_true p233
                 replace q233 := eq_true q233
                 go_wp2
                 go_roundg k4
                 case measure => have := HK1.out; have := HK2.out; have := HK3.out; have := HK4.out; omega
                 case rel => exact ⟨(wrap64 (x7_3 + 1)), (by first | rfl | (simp; done) | (simp [*]; done)), H', ⟨by have := HK1.out; have := HK2.out; have := HK3.out; have := HK4.out; omega⟩, ⟨by (with_reducible repeat (first | refine blk_drewN ?_ _ | refine blk_drew ?_ | refine blk_alloc ?_ _)); exact qk1.out⟩, ⟨by repeat (first | (with_reducible first | exact HB.out | apply below_alloc | apply pw_below_drewN | apply below_drew1 | refine below_set ?_ qj1.out) | exact HB.out)⟩⟩
               ·rw [if_neg c55] at H
                exact absurd H (by simp)
              ·rw [if_neg c54] at H
               exact absurd H (by simp)
           ·rw [if_neg c52] at H
            have c52b0 : decide (x7_3 < (l0_0.length : Int)) = false := decide_eq_false c52
            clear c52
            obtain rfl := Option.some.inj H
            have hcz67_0 : wr.cell? ⟨gb220, 0, none⟩ = some (.slice A0_0 l0_0.length c0_0) := (blk_cell qk1.out 0).trans rfl
            have hcz67_1 : wr.cell? ⟨gb220, 1, none⟩ = some (.slice A0_1 l0_1.length c0_1) := (blk_cell qk1.out 1).trans rfl
            have hfz67_0 := blk_frozen qk1.out 0
            have hfz67_1 := blk_frozen qk1.out 1
            go_wp2
            go_ret
            exact ⟨by first | rfl | (simp [errW_none, errW_some] <;> rfl) | (simp [*, errW_none, errW_some] <;> rfl) | (simp only [Bool.and_eq_true, beq_iff_eq, Bool.not_eq_true', Bool.not_eq_eq_eq_not, Bool.not_true, Bool.not_false] at *; simp [*]), by repeat (first | (with_reducible first | exact HB.out | apply below_alloc | apply pw_below_drewN | apply below_drew1 | refine below_set ?_ qj1.out) | exact HB.out)⟩
 ·replace c3 := Bool.eq_false_iff.mpr c3
  subst c3
  have H1 : (some 1) = some r := by rw [if_neg (show ¬ (false = true) by decide)] at H; exact H
  clear H
  have H := H1
  clear H1
  obtain rfl := Option.some.inj H
  go_enter Tryz.func16, Tryz.ntmps16
  go_wp2_with (first | ((with_reducible refine gate_dst (N := 1) rfl ?_); refine box_event ?hg (N := 1) ?hd (cs := #[.slice A0_0 l0_0.length c0_0, .slice A0_1 l0_1.length c0_1]) (t := 26) ?hr ?_; (case hd => rfl); (case hg => rfl); (case hr => first | (go_simp; done) | (go_simp; rfl)); intro gb220 hg w68 hbox hb; have n0_ := Aside0.mk (below_step (by repeat (first | (with_reducible first | exact HB.out | apply below_alloc | apply pw_below_drewN | apply below_drew1) | exact HB.out)) hb); have n1_ := Aside0.mk (hbox); have n2_ := Aside0.mk ((by rw [hg]; exact (below_size (by repeat (first | (with_reducible first | exact HB.out | apply below_alloc | apply pw_below_drewN | apply below_drew1) | exact HB.out))) : w.heap.size ≤ gb220)); have n3_ := Aside0.mk ((by rw [hg]; exact (below_size (by repeat (first | (with_reducible first | exact HB.out | apply below_alloc | apply pw_below_drewN | apply below_drew1) | exact HB.out))) : w.heap.size ≤ gb220)); clear HB; have HB := n0_; have qk1 := n1_; have qi1 := n2_; have qj1 := n3_; clear n0_ n1_ n2_ n3_; clear hb hbox hg; have hcz69_0 : w68.cell? ⟨gb220, 0, none⟩ = some (.slice A0_0 l0_0.length c0_0) := (blk_cell qk1.out 0).trans rfl; have hcz69_1 : w68.cell? ⟨gb220, 1, none⟩ = some (.slice A0_1 l0_1.length c0_1) := (blk_cell qk1.out 1).trans rfl; have hfz69_0 := blk_frozen qk1.out 0; have hfz69_1 := blk_frozen qk1.out 1) | ((with_reducible refine gate_callee (f := 30) rfl ?_); refine goesL_ (some 10) rfl rfl Tryz.func30 (by kernel_rfl) rfl #[.agg #[.slice A0_0 l0_0.length c0_0, .slice A0_1 l0_1.length c0_1]] rfl (by (try simp only [List.map_toArray, List.map_cons, List.map_nil]); first | done | rfl | (simp only [List.length_drop, List.length_take]; rfl)) ?_; (with_reducible refine (spec_l9Form.calls _ _ l0_0 _ _ l0_1 false _ ?side1 ?side2 ?side3 ?side4 A2.out).mono ?_); (case side1 => repeat (first | exact (Kd.C_below HR0_0.out HB.out) | (with_reducible refine Kd.C_alloc ?_ _) | (with_reducible refine Kd.C_drewN ?_ _) | (with_reducible refine Kd.C_drew ?_))); (case side2 => exact HC0_0.out); (case side3 => repeat (first | exact (Kd.C_below HR0_1.out HB.out) | (with_reducible refine Kd.C_alloc ?_ _) | (with_reducible refine Kd.C_drewN ?_ _) | (with_reducible refine Kd.C_drew ?_))); (case side4 => exact HC0_1.out); rintro e w70 ⟨rfl, hb⟩; refine ⟨_, rfl, ?_⟩; have n0_ := Aside0.mk (blk_below (g := gb220) (o := .cells #[.slice A0_0 l0_0.length c0_0, .slice A0_1 l0_1.length c0_1] 26 (0, 0)) (by (with_reducible repeat (first | refine blk_drewN ?_ _ | refine blk_drew ?_ | refine blk_alloc ?_ _)); exact qk1.out) hb); have n1_ := Aside0.mk (below_step (by repeat (first | (with_reducible first | exact HB.out | apply below_alloc | apply pw_below_drewN | apply below_drew1 | refine below_set ?_ qj1.out) | exact HB.out)) hb); clear qk1; clear HB; have qk1 := n0_; have HB := n1_; clear n0_ n1_; (try clear hb); (try clear hb2); (try clear hk); (try clear hi)))
  go_ret
  exact ⟨by first | rfl | (simp [errW_none, errW_some] <;> rfl) | (simp [*, errW_none, errW_some] <;> rfl) | (simp only [Bool.and_eq_true, beq_iff_eq, Bool.not_eq_true', Bool.not_eq_eq_eq_not, Bool.not_true, Bool.not_false] at *; simp [*]), by repeat (first | (with_reducible first | exact HB.out | apply below_alloc | apply pw_below_drewN | apply below_drew1 | refine below_set ?_ qj1.out) | exact HB.out)⟩

end Go.Proofs.YtjeipkfeihahdaaGreatDoor.P
