-- PRINTED by print.py (a twelfth state) out of the translation. Not trusted: Lean checks it.
import Derived.Test.YtjeipkfeihahdaaDoorPx0
import Derived.Test.YtjeipkfeihahdaaDoorPx14
import Derived.Test.YtjeipkfeihahdaaDoorPx16
import Derived.Test.YtjeipkfeihahdaaDoorPx18
import Derived.Test.YtjeipkfeihahdaaDoorPx20
namespace Go.Proofs.YtjeipkfeihahdaaDoor.P
open Go.RowKit Go.Proofs.YtjeipkfeihahdaaDoorW.PrintWords Go.Proofs.YtjeipkfeihahdaaDoorW.PrintLast Go.Proofs.YtjeipkfeihahdaaDoorW.PrintMore
attribute [local go_sem] max2_int min2_int max_two min_two max_three min_three max_four min_four   -- for this text's walks alone
set_option linter.unusedVariables false
set_option linter.unusedSimpArgs false

/-! ### spec_IdlCheck: function 6 -/
mutual
def spec_IdlCheck.l0 : Nat → Int → List (S32) → List (S65) → Option (Int)
 | 0, _, _, _ => none
 | k + 1, x3, qf, qu => if x3 < (qf.length : Int) then (spec_IdlCheck.l1 k x3 0 qf qu) else (spec_IdlCheck.l2 k 0 qf qu)
def spec_IdlCheck.l1 : Nat → Int → Int → List (S32) → List (S65) → Option (Int)
 | 0, _, _, _, _ => none
 | k + 1, x3, x4, qf, qu => if 0 ≤ x3 then (if x3 < (qf.length : Int) then (if x4 < (((rd_T32 qf x3).f1).length : Int) then (if 0 ≤ x4 then ((spec_l9Of.f k qf qu ((rd_T36 ((rd_T32 qf x3).f1) x4).f2.f0) ((rd_T36 ((rd_T32 qf x3).f1) x4).f2.f1)).bind fun t372 => (if t372 = 0 then (some 3) else ((spec_l9Of.f k qf qu ((rd_T36 ((rd_T32 qf x3).f1) x4).f2.f0) false).bind fun t375 => (if t375 = 0 then (some 3) else (spec_IdlCheck.l1 k x3 (wrap64 (x4 + 1)) qf qu))))) else (none)) else (spec_IdlCheck.l0 k (wrap64 (x3 + 1)) qf qu)) else (none)) else (none)
def spec_IdlCheck.l2 : Nat → Int → List (S32) → List (S65) → Option (Int)
 | 0, _, _, _ => none
 | k + 1, x5, qf, qu => if x5 < (qf.length : Int) then (spec_IdlCheck.l3 k x5 0 qf qu) else (spec_IdlCheck.l4 k 0 qf qu)
def spec_IdlCheck.l3 : Nat → Int → Int → List (S32) → List (S65) → Option (Int)
 | 0, _, _, _, _ => none
 | k + 1, x5, x6, qf, qu => if 0 ≤ x5 then (if x5 < (qf.length : Int) then (if x6 < (((rd_T32 qf x5).f1).length : Int) then ((spec_l9Decl.f k ((rd_T32 qf x5).f0) ((rd_T32 qf x5).f1) x6).bind fun t378 => (if t378 < 0 then (some 4) else (spec_IdlCheck.l3 k x5 (wrap64 (x6 + 1)) qf qu))) else (spec_IdlCheck.l2 k (wrap64 (x5 + 1)) qf qu)) else (none)) else (none)
def spec_IdlCheck.l4 : Nat → Int → List (S32) → List (S65) → Option (Int)
 | 0, _, _, _ => none
 | k + 1, x7, qf, qu => if x7 < (qf.length : Int) then (spec_IdlCheck.l5 k x7 0 qf qu) else (some 0)
def spec_IdlCheck.l5 : Nat → Int → Int → List (S32) → List (S65) → Option (Int)
 | 0, _, _, _, _ => none
 | k + 1, x7, x8, qf, qu => if 0 ≤ x7 then (if x7 < (qf.length : Int) then (if x8 < (((rd_T32 qf x7).f1).length : Int) then (if 0 ≤ x8 then ((spec_l9Else.f k qf qu ((rd_T36 ((rd_T32 qf x7).f1) x8).f0) ((rd_T36 ((rd_T32 qf x7).f1) x8).f1) ((rd_T36 ((rd_T32 qf x7).f1) x8).f2.f0) ((rd_T36 ((rd_T32 qf x7).f1) x8).f2.f1) ((rd_T36 ((rd_T32 qf x7).f1) x8).f3) ((rd_T36 ((rd_T32 qf x7).f1) x8).f4)).bind fun t382 => (if t382 = true then (spec_IdlCheck.l5 k x7 (wrap64 (x8 + 1)) qf qu) else (some 5))) else (none)) else (spec_IdlCheck.l4 k (wrap64 (x7 + 1)) qf qu)) else (none)) else (none)
end
def spec_IdlCheck.f (k : Nat) (l0_0 : List (S32)) (l0_1 : List (S65)) : Option (Int) := (spec_l9Form.f k l0_0 l0_1).bind fun t367 => (if t367 = true then ((spec_l9Names.f k l0_0 l0_1).bind fun t368 => (if t368 = true then (some 2) else (spec_IdlCheck.l0 k 0 l0_0 l0_1))) else (some 1))
theorem spec_IdlCheck.mono_l : ∀ k, (∀ y0 y1 y2, LeO (spec_IdlCheck.l0 k y0 y1 y2) (spec_IdlCheck.l0 (k + 1) y0 y1 y2)) ∧ (∀ y0 y1 y2 y3, LeO (spec_IdlCheck.l1 k y0 y1 y2 y3) (spec_IdlCheck.l1 (k + 1) y0 y1 y2 y3)) ∧ (∀ y0 y1 y2, LeO (spec_IdlCheck.l2 k y0 y1 y2) (spec_IdlCheck.l2 (k + 1) y0 y1 y2)) ∧ (∀ y0 y1 y2 y3, LeO (spec_IdlCheck.l3 k y0 y1 y2 y3) (spec_IdlCheck.l3 (k + 1) y0 y1 y2 y3)) ∧ (∀ y0 y1 y2, LeO (spec_IdlCheck.l4 k y0 y1 y2) (spec_IdlCheck.l4 (k + 1) y0 y1 y2)) ∧ (∀ y0 y1 y2 y3, LeO (spec_IdlCheck.l5 k y0 y1 y2 y3) (spec_IdlCheck.l5 (k + 1) y0 y1 y2 y3))
 | 0 => ⟨fun _ _ _ r h => by simp [spec_IdlCheck.l0] at h, fun _ _ _ _ r h => by simp [spec_IdlCheck.l1] at h, fun _ _ _ r h => by simp [spec_IdlCheck.l2] at h, fun _ _ _ _ r h => by simp [spec_IdlCheck.l3] at h, fun _ _ _ r h => by simp [spec_IdlCheck.l4] at h, fun _ _ _ _ r h => by simp [spec_IdlCheck.l5] at h⟩
 | k + 1 => by
  obtain ⟨ih0, ih1, ih2, ih3, ih4, ih5⟩ := spec_IdlCheck.mono_l k
  refine ⟨?_, ?_, ?_, ?_, ?_, ?_⟩
  ·intro y0 y1 y2
   unfold spec_IdlCheck.l0
   repeat' first
   | (with_reducible exact ih0 _ _ _)
   | (with_reducible exact ih1 _ _ _ _)
   | (with_reducible exact ih2 _ _ _)
   | (with_reducible exact ih3 _ _ _ _)
   | (with_reducible exact ih4 _ _ _)
   | (with_reducible exact ih5 _ _ _ _)
   | (with_reducible exact spec_l9Decl.mono _ _ _ _)
   | (with_reducible exact spec_l9Else.mono _ _ _ _ _ _ _ _ _)
   | (with_reducible exact spec_l9Form.mono _ _ _)
   | (with_reducible exact spec_l9Names.mono _ _ _)
   | (with_reducible exact spec_l9Of.mono _ _ _ _ _)
   | (with_reducible exact LeO.refl _)
   | (with_reducible exact LeO.none _)
   | (with_reducible refine LeO.ite ?_ ?_)
   | (with_reducible refine LeO.bind ?_ (fun _ => ?_))
   | exact ih0 _ _ _
   | exact ih1 _ _ _ _
   | exact ih2 _ _ _
   | exact ih3 _ _ _ _
   | exact ih4 _ _ _
   | exact ih5 _ _ _ _
   | exact spec_l9Decl.mono _ _ _ _
   | exact spec_l9Else.mono _ _ _ _ _ _ _ _ _
   | exact spec_l9Form.mono _ _ _
   | exact spec_l9Names.mono _ _ _
   | exact spec_l9Of.mono _ _ _ _ _
   | exact LeO.none _
   | refine LeO.ite ?_ ?_
   | refine LeO.bind ?_ (fun _ => ?_)
  ·intro y0 y1 y2 y3
   unfold spec_IdlCheck.l1
   repeat' first
   | (with_reducible exact ih0 _ _ _)
   | (with_reducible exact ih1 _ _ _ _)
   | (with_reducible exact ih2 _ _ _)
   | (with_reducible exact ih3 _ _ _ _)
   | (with_reducible exact ih4 _ _ _)
   | (with_reducible exact ih5 _ _ _ _)
   | (with_reducible exact spec_l9Decl.mono _ _ _ _)
   | (with_reducible exact spec_l9Else.mono _ _ _ _ _ _ _ _ _)
   | (with_reducible exact spec_l9Form.mono _ _ _)
   | (with_reducible exact spec_l9Names.mono _ _ _)
   | (with_reducible exact spec_l9Of.mono _ _ _ _ _)
   | (with_reducible exact LeO.refl _)
   | (with_reducible exact LeO.none _)
   | (with_reducible refine LeO.ite ?_ ?_)
   | (with_reducible refine LeO.bind ?_ (fun _ => ?_))
   | exact ih0 _ _ _
   | exact ih1 _ _ _ _
   | exact ih2 _ _ _
   | exact ih3 _ _ _ _
   | exact ih4 _ _ _
   | exact ih5 _ _ _ _
   | exact spec_l9Decl.mono _ _ _ _
   | exact spec_l9Else.mono _ _ _ _ _ _ _ _ _
   | exact spec_l9Form.mono _ _ _
   | exact spec_l9Names.mono _ _ _
   | exact spec_l9Of.mono _ _ _ _ _
   | exact LeO.none _
   | refine LeO.ite ?_ ?_
   | refine LeO.bind ?_ (fun _ => ?_)
  ·intro y0 y1 y2
   unfold spec_IdlCheck.l2
   repeat' first
   | (with_reducible exact ih0 _ _ _)
   | (with_reducible exact ih1 _ _ _ _)
   | (with_reducible exact ih2 _ _ _)
   | (with_reducible exact ih3 _ _ _ _)
   | (with_reducible exact ih4 _ _ _)
   | (with_reducible exact ih5 _ _ _ _)
   | (with_reducible exact spec_l9Decl.mono _ _ _ _)
   | (with_reducible exact spec_l9Else.mono _ _ _ _ _ _ _ _ _)
   | (with_reducible exact spec_l9Form.mono _ _ _)
   | (with_reducible exact spec_l9Names.mono _ _ _)
   | (with_reducible exact spec_l9Of.mono _ _ _ _ _)
   | (with_reducible exact LeO.refl _)
   | (with_reducible exact LeO.none _)
   | (with_reducible refine LeO.ite ?_ ?_)
   | (with_reducible refine LeO.bind ?_ (fun _ => ?_))
   | exact ih0 _ _ _
   | exact ih1 _ _ _ _
   | exact ih2 _ _ _
   | exact ih3 _ _ _ _
   | exact ih4 _ _ _
   | exact ih5 _ _ _ _
   | exact spec_l9Decl.mono _ _ _ _
   | exact spec_l9Else.mono _ _ _ _ _ _ _ _ _
   | exact spec_l9Form.mono _ _ _
   | exact spec_l9Names.mono _ _ _
   | exact spec_l9Of.mono _ _ _ _ _
   | exact LeO.none _
   | refine LeO.ite ?_ ?_
   | refine LeO.bind ?_ (fun _ => ?_)
  ·intro y0 y1 y2 y3
   unfold spec_IdlCheck.l3
   repeat' first
   | (with_reducible exact ih0 _ _ _)
   | (with_reducible exact ih1 _ _ _ _)
   | (with_reducible exact ih2 _ _ _)
   | (with_reducible exact ih3 _ _ _ _)
   | (with_reducible exact ih4 _ _ _)
   | (with_reducible exact ih5 _ _ _ _)
   | (with_reducible exact spec_l9Decl.mono _ _ _ _)
   | (with_reducible exact spec_l9Else.mono _ _ _ _ _ _ _ _ _)
   | (with_reducible exact spec_l9Form.mono _ _ _)
   | (with_reducible exact spec_l9Names.mono _ _ _)
   | (with_reducible exact spec_l9Of.mono _ _ _ _ _)
   | (with_reducible exact LeO.refl _)
   | (with_reducible exact LeO.none _)
   | (with_reducible refine LeO.ite ?_ ?_)
   | (with_reducible refine LeO.bind ?_ (fun _ => ?_))
   | exact ih0 _ _ _
   | exact ih1 _ _ _ _
   | exact ih2 _ _ _
   | exact ih3 _ _ _ _
   | exact ih4 _ _ _
   | exact ih5 _ _ _ _
   | exact spec_l9Decl.mono _ _ _ _
   | exact spec_l9Else.mono _ _ _ _ _ _ _ _ _
   | exact spec_l9Form.mono _ _ _
   | exact spec_l9Names.mono _ _ _
   | exact spec_l9Of.mono _ _ _ _ _
   | exact LeO.none _
   | refine LeO.ite ?_ ?_
   | refine LeO.bind ?_ (fun _ => ?_)
  ·intro y0 y1 y2
   unfold spec_IdlCheck.l4
   repeat' first
   | (with_reducible exact ih0 _ _ _)
   | (with_reducible exact ih1 _ _ _ _)
   | (with_reducible exact ih2 _ _ _)
   | (with_reducible exact ih3 _ _ _ _)
   | (with_reducible exact ih4 _ _ _)
   | (with_reducible exact ih5 _ _ _ _)
   | (with_reducible exact spec_l9Decl.mono _ _ _ _)
   | (with_reducible exact spec_l9Else.mono _ _ _ _ _ _ _ _ _)
   | (with_reducible exact spec_l9Form.mono _ _ _)
   | (with_reducible exact spec_l9Names.mono _ _ _)
   | (with_reducible exact spec_l9Of.mono _ _ _ _ _)
   | (with_reducible exact LeO.refl _)
   | (with_reducible exact LeO.none _)
   | (with_reducible refine LeO.ite ?_ ?_)
   | (with_reducible refine LeO.bind ?_ (fun _ => ?_))
   | exact ih0 _ _ _
   | exact ih1 _ _ _ _
   | exact ih2 _ _ _
   | exact ih3 _ _ _ _
   | exact ih4 _ _ _
   | exact ih5 _ _ _ _
   | exact spec_l9Decl.mono _ _ _ _
   | exact spec_l9Else.mono _ _ _ _ _ _ _ _ _
   | exact spec_l9Form.mono _ _ _
   | exact spec_l9Names.mono _ _ _
   | exact spec_l9Of.mono _ _ _ _ _
   | exact LeO.none _
   | refine LeO.ite ?_ ?_
   | refine LeO.bind ?_ (fun _ => ?_)
  ·intro y0 y1 y2 y3
   unfold spec_IdlCheck.l5
   repeat' first
   | (with_reducible exact ih0 _ _ _)
   | (with_reducible exact ih1 _ _ _ _)
   | (with_reducible exact ih2 _ _ _)
   | (with_reducible exact ih3 _ _ _ _)
   | (with_reducible exact ih4 _ _ _)
   | (with_reducible exact ih5 _ _ _ _)
   | (with_reducible exact spec_l9Decl.mono _ _ _ _)
   | (with_reducible exact spec_l9Else.mono _ _ _ _ _ _ _ _ _)
   | (with_reducible exact spec_l9Form.mono _ _ _)
   | (with_reducible exact spec_l9Names.mono _ _ _)
   | (with_reducible exact spec_l9Of.mono _ _ _ _ _)
   | (with_reducible exact LeO.refl _)
   | (with_reducible exact LeO.none _)
   | (with_reducible refine LeO.ite ?_ ?_)
   | (with_reducible refine LeO.bind ?_ (fun _ => ?_))
   | exact ih0 _ _ _
   | exact ih1 _ _ _ _
   | exact ih2 _ _ _
   | exact ih3 _ _ _ _
   | exact ih4 _ _ _
   | exact ih5 _ _ _ _
   | exact spec_l9Decl.mono _ _ _ _
   | exact spec_l9Else.mono _ _ _ _ _ _ _ _ _
   | exact spec_l9Form.mono _ _ _
   | exact spec_l9Names.mono _ _ _
   | exact spec_l9Of.mono _ _ _ _ _
   | exact LeO.none _
   | refine LeO.ite ?_ ?_
   | refine LeO.bind ?_ (fun _ => ?_)
theorem spec_IdlCheck.mono : ∀ a0 a1 k, LeO (spec_IdlCheck.f k a0 a1) (spec_IdlCheck.f (k + 1) a0 a1) := by
 intro a0 a1 k
 obtain ⟨ih0, ih1, ih2, ih3, ih4, ih5⟩ := spec_IdlCheck.mono_l k
 unfold spec_IdlCheck.f
 repeat' first
   | (with_reducible exact ih0 _ _ _)
   | (with_reducible exact ih1 _ _ _ _)
   | (with_reducible exact ih2 _ _ _)
   | (with_reducible exact ih3 _ _ _ _)
   | (with_reducible exact ih4 _ _ _)
   | (with_reducible exact ih5 _ _ _ _)
   | (with_reducible exact spec_l9Decl.mono _ _ _ _)
   | (with_reducible exact spec_l9Else.mono _ _ _ _ _ _ _ _ _)
   | (with_reducible exact spec_l9Form.mono _ _ _)
   | (with_reducible exact spec_l9Names.mono _ _ _)
   | (with_reducible exact spec_l9Of.mono _ _ _ _ _)
   | (with_reducible exact LeO.refl _)
   | (with_reducible exact LeO.none _)
   | (with_reducible refine LeO.ite ?_ ?_)
   | (with_reducible refine LeO.bind ?_ (fun _ => ?_))
   | exact ih0 _ _ _
   | exact ih1 _ _ _ _
   | exact ih2 _ _ _
   | exact ih3 _ _ _ _
   | exact ih4 _ _ _
   | exact ih5 _ _ _ _
   | exact spec_l9Decl.mono _ _ _ _
   | exact spec_l9Else.mono _ _ _ _ _ _ _ _ _
   | exact spec_l9Form.mono _ _ _
   | exact spec_l9Names.mono _ _ _
   | exact spec_l9Of.mono _ _ _ _ _
   | exact LeO.none _
   | refine LeO.ite ?_ ?_
   | refine LeO.bind ?_ (fun _ => ?_)
def spec_IdlCheck.T11 : Bool × List (List Nat × List Nat) := (true, [([], []), ([], []), ([1], [1]), ([], []), ([2, 3], [2, 3]), ([4], [4]), ([5], [5]), ([], []), ([6, 7], [6, 7]), ([8], [8]), ([9], [9]), ([0, 10], [0, 10]), ([11], [11]), ([12, 11], [12]), ([13], [13]), ([13], [13]), ([15, 13], [13, 15]), ([13], [13]), ([16, 17, 13], [13, 16, 17]), ([18, 13], [13, 18]), ([19, 13], [13, 19]), ([13], [13]), ([20, 21, 13], [13, 20, 21]), ([22, 13], [13, 22]), ([23, 13], [13, 23]), ([24, 13], [13, 24]), ([25, 13], [13, 25]), ([14, 26, 13, 13], [13, 14, 26]), ([27, 13], [13, 27]), ([13, 28], [13, 28])])
def spec_IdlCheck.B11 : List Nat := [0, 0, 2, 0, 14, 30, 62, 0, 254, 510, 1022, 2047, 4095, 8191, 16383, 16383, 49151, 16383, 245759, 507903, 1032191, 16383, 4177919, 8372223, 16760831, 33538047, 67092479, 134217727, 268435455, 536870911]
theorem spec_IdlCheck.tab11 : rtab .any (opsOf Tryd.f6 11) = spec_IdlCheck.T11 := by kernel_rfl
theorem spec_IdlCheck.bits11 : waitsOk spec_IdlCheck.T11.2 spec_IdlCheck.B11 = true := by kernel_rfl
def spec_IdlCheck.T27 : Bool × List (List Nat × List Nat) := (true, [([], []), ([], []), ([1], [1]), ([], []), ([2, 3], [2, 3]), ([4], [4]), ([5], [5]), ([], []), ([6, 7], [6, 7]), ([8], [8]), ([0, 9], [0, 9]), ([10], [10])])
def spec_IdlCheck.B27 : List Nat := [0, 0, 2, 0, 14, 30, 62, 0, 254, 510, 1023, 2047]
theorem spec_IdlCheck.tab27 : rtab .any (opsOf Tryd.f6 27) = spec_IdlCheck.T27 := by kernel_rfl
theorem spec_IdlCheck.bits27 : waitsOk spec_IdlCheck.T27.2 spec_IdlCheck.B27 = true := by kernel_rfl
set_option maxHeartbeats 8000000 in
set_option maxRecDepth 100000 in
theorem spec_IdlCheck.calls (k : Nat) (A0_0 : Option Addr) (c0_0 : Nat) (l0_0 : List (S32)) (A0_1 : Option Addr) (c0_1 : Nat) (l0_1 : List (S65)) (r : Int) (w : World) (hr0_0 : Kd.C k32 w A0_0 l0_0.length l0_0) (hc0_0 : l0_0.length ≤ c0_0) (hr0_1 : Kd.C k65 w A0_1 l0_1.length l0_1) (hc0_1 : l0_1.length ≤ c0_1) (h : spec_IdlCheck.f k l0_0 l0_1 = some r) :
  Calls Tryd.prog 6 #[.agg #[.slice A0_0 l0_0.length c0_0, .slice A0_1 l0_1.length c0_1]] w fun e w' => e = .returned (.int .i64 r) ∧ Below w.heap.size w w' := by
 have hu26 := Tryd.underlying26
 have hu34 := Tryd.underlying34
 have hu32 := Tryd.underlying32
 have hu36 := Tryd.underlying36
 have HR0_0 := Aside0.mk hr0_0
 have HC0_0 := Aside0.mk hc0_0
 clear hr0_0 hc0_0
 have HR0_1 := Aside0.mk hr0_1
 have HC0_1 := Aside0.mk hc0_1
 clear hr0_1 hc0_1
 have HB := Aside0.mk (Below.refl w.heap.size w)
 have H : ((spec_l9Form.f k l0_0 l0_1).bind fun t367 => (if t367 = true then ((spec_l9Names.f k l0_0 l0_1).bind fun t368 => (if t368 = true then (some 2) else (spec_IdlCheck.l0 k 0 l0_0 l0_1))) else (some 1))) = some r := h
 clear h
 replace H := Option.bind_eq_some_iff.mp H
 obtain ⟨t367, A20, H⟩ := H
 replace H : (if t367 = true then ((spec_l9Names.f k l0_0 l0_1).bind fun t368 => (if t368 = true then (some 2) else (spec_IdlCheck.l0 k 0 l0_0 l0_1))) else (some 1)) = some r := H
 have A2 := Aside0.mk A20
 clear A20
 by_cases c3 : t367 = true
 ·subst c3
  have H1 : ((spec_l9Names.f k l0_0 l0_1).bind fun t368 => (if t368 = true then (some 2) else (spec_IdlCheck.l0 k 0 l0_0 l0_1))) = some r := by rw [if_pos rfl] at H; exact H
  clear H
  have H := H1
  clear H1
  replace H := Option.bind_eq_some_iff.mp H
  obtain ⟨t368, A40, H⟩ := H
  replace H : (if t368 = true then (some 2) else (spec_IdlCheck.l0 k 0 l0_0 l0_1)) = some r := H
  have A4 := Aside0.mk A40
  clear A40
  by_cases c5 : t368 = true
  ·subst c5
   have H1 : (some 2) = some r := by rw [if_pos rfl] at H; exact H
   clear H
   have H := H1
   clear H1
   obtain rfl := Option.some.inj H
   go_enter Tryd.func6, Tryd.ntmps6
   go_wp2_with (first | ((with_reducible refine gate_dst (N := 1) rfl ?_); refine box_event ?hg (N := 1) ?hd (cs := #[.slice A0_0 l0_0.length c0_0, .slice A0_1 l0_1.length c0_1]) (t := 26) ?hr ?_; (case hd => rfl); (case hg => rfl); (case hr => first | (go_simp; done) | (go_simp; rfl)); intro gb366 hg w6 hbox hb; have n0_ := Aside0.mk (below_step (by repeat (first | (with_reducible first | exact HB.out | apply below_alloc | apply pw_below_drewN | apply below_drew1) | exact HB.out)) hb); have n1_ := Aside0.mk (hbox); have n2_ := Aside0.mk ((by rw [hg]; exact (below_size (by repeat (first | (with_reducible first | exact HB.out | apply below_alloc | apply pw_below_drewN | apply below_drew1) | exact HB.out))) : w.heap.size ≤ gb366)); have n3_ := Aside0.mk ((by rw [hg]; exact (below_size (by repeat (first | (with_reducible first | exact HB.out | apply below_alloc | apply pw_below_drewN | apply below_drew1) | exact HB.out))) : w.heap.size ≤ gb366)); clear HB; have HB := n0_; have qj1 := n1_; have qk1 := n2_; have qi1 := n3_; clear n0_ n1_ n2_ n3_; clear hb hbox hg; have hcz7_0 : w6.cell? ⟨gb366, 0, none⟩ = some (.slice A0_0 l0_0.length c0_0) := (blk_cell qj1.out 0).trans rfl; have hcz7_1 : w6.cell? ⟨gb366, 1, none⟩ = some (.slice A0_1 l0_1.length c0_1) := (blk_cell qj1.out 1).trans rfl; have hfz7_0 := blk_frozen qj1.out 0; have hfz7_1 := blk_frozen qj1.out 1) | ((with_reducible refine gate_callee (f := 20) rfl ?_); refine goesL_ (some 10) rfl rfl Tryd.func20 (by kernel_rfl) rfl #[.agg #[.slice A0_0 l0_0.length c0_0, .slice A0_1 l0_1.length c0_1]] rfl (by (try simp only [List.map_toArray, List.map_cons, List.map_nil]); first | done | rfl | (simp only [List.length_drop, List.length_take]; rfl)) ?_; (with_reducible refine (spec_l9Form.calls k _ _ l0_0 _ _ l0_1 true _ ?side1 ?side2 ?side3 ?side4 A2.out).mono ?_); (case side1 => repeat (first | exact (Kd.C_below HR0_0.out HB.out) | (with_reducible refine Kd.C_alloc ?_ _) | (with_reducible refine Kd.C_drewN ?_ _) | (with_reducible refine Kd.C_drew ?_))); (case side2 => exact HC0_0.out); (case side3 => repeat (first | exact (Kd.C_below HR0_1.out HB.out) | (with_reducible refine Kd.C_alloc ?_ _) | (with_reducible refine Kd.C_drewN ?_ _) | (with_reducible refine Kd.C_drew ?_))); (case side4 => exact HC0_1.out); rintro e w8 ⟨rfl, hb⟩; refine ⟨_, rfl, ?_⟩; have n0_ := Aside0.mk (blk_below (g := gb366) (o := .cells #[.slice A0_0 l0_0.length c0_0, .slice A0_1 l0_1.length c0_1] 26 (0, 0)) (by (with_reducible repeat (first | refine blk_drewN ?_ _ | refine blk_drew ?_ | refine blk_alloc ?_ _)); exact qj1.out) hb); have n1_ := Aside0.mk (below_step (by repeat (first | (with_reducible first | exact HB.out | apply below_alloc | apply pw_below_drewN | apply below_drew1 | refine below_set ?_ qi1.out) | exact HB.out)) hb); clear qj1; clear HB; have qj1 := n0_; have HB := n1_; clear n0_ n1_; (try clear hb); (try clear hb2); (try clear hk); (try clear hi); have hcz9_0 : w8.cell? ⟨gb366, 0, none⟩ = some (.slice A0_0 l0_0.length c0_0) := (blk_cell qj1.out 0).trans rfl; have hcz9_1 : w8.cell? ⟨gb366, 1, none⟩ = some (.slice A0_1 l0_1.length c0_1) := (blk_cell qj1.out 1).trans rfl; have hfz9_0 := blk_frozen qj1.out 0; have hfz9_1 := blk_frozen qj1.out 1) | ((with_reducible refine gate_callee (f := 21) rfl ?_); refine goesL_ (some 13) rfl rfl Tryd.func21 (by kernel_rfl) rfl #[.agg #[.slice A0_0 l0_0.length c0_0, .slice A0_1 l0_1.length c0_1]] rfl (by (try simp only [List.map_toArray, List.map_cons, List.map_nil]); first | done | rfl | (simp only [List.length_drop, List.length_take]; rfl)) ?_; (with_reducible refine (spec_l9Names.calls k _ _ l0_0 _ _ l0_1 true _ ?side1 ?side2 ?side3 ?side4 A4.out).mono ?_); (case side1 => repeat (first | exact (Kd.C_below HR0_0.out HB.out) | (with_reducible refine Kd.C_alloc ?_ _) | (with_reducible refine Kd.C_drewN ?_ _) | (with_reducible refine Kd.C_drew ?_))); (case side2 => exact HC0_0.out); (case side3 => repeat (first | exact (Kd.C_below HR0_1.out HB.out) | (with_reducible refine Kd.C_alloc ?_ _) | (with_reducible refine Kd.C_drewN ?_ _) | (with_reducible refine Kd.C_drew ?_))); (case side4 => exact HC0_1.out); rintro e w10 ⟨rfl, hb⟩; refine ⟨_, rfl, ?_⟩; have n0_ := Aside0.mk (blk_below (g := gb366) (o := .cells #[.slice A0_0 l0_0.length c0_0, .slice A0_1 l0_1.length c0_1] 26 (0, 0)) (by (with_reducible repeat (first | refine blk_drewN ?_ _ | refine blk_drew ?_ | refine blk_alloc ?_ _)); exact qj1.out) hb); have n1_ := Aside0.mk (below_step (by repeat (first | (with_reducible first | exact HB.out | apply below_alloc | apply pw_below_drewN | apply below_drew1 | refine below_set ?_ qi1.out) | exact HB.out)) hb); clear qj1; clear HB; have qj1 := n0_; have HB := n1_; clear n0_ n1_; (try clear hb); (try clear hb2); (try clear hk); (try clear hi)))
   go_ret
   exact ⟨by first | rfl | (simp [errW_none, errW_some] <;> rfl) | (simp [*, errW_none, errW_some] <;> rfl) | (simp only [Bool.and_eq_true, beq_iff_eq, Bool.not_eq_true', Bool.not_eq_eq_eq_not, Bool.not_true, Bool.not_false] at *; simp [*]), by repeat (first | (with_reducible first | exact HB.out | apply below_alloc | apply pw_below_drewN | apply below_drew1 | refine below_set ?_ qi1.out) | exact HB.out)⟩
  ·replace c5 := Bool.eq_false_iff.mpr c5
   subst c5
   have H1 : (spec_IdlCheck.l0 k 0 l0_0 l0_1) = some r := by rw [if_neg (show ¬ (false = true) by decide)] at H; exact H
   clear H
   have H := H1
   clear H1
   have H' := Aside0.mk H
   clear H
   go_enter Tryd.func6, Tryd.ntmps6
   go_wp2_with (first | ((with_reducible refine gate_dst (N := 1) rfl ?_); refine box_event ?hg (N := 1) ?hd (cs := #[.slice A0_0 l0_0.length c0_0, .slice A0_1 l0_1.length c0_1]) (t := 26) ?hr ?_; (case hd => rfl); (case hg => rfl); (case hr => first | (go_simp; done) | (go_simp; rfl)); intro gb366 hg w11 hbox hb; have n0_ := Aside0.mk (below_step (by repeat (first | (with_reducible first | exact HB.out | apply below_alloc | apply pw_below_drewN | apply below_drew1) | exact HB.out)) hb); have n1_ := Aside0.mk (hbox); have n2_ := Aside0.mk ((by rw [hg]; exact (below_size (by repeat (first | (with_reducible first | exact HB.out | apply below_alloc | apply pw_below_drewN | apply below_drew1) | exact HB.out))) : w.heap.size ≤ gb366)); have n3_ := Aside0.mk ((by rw [hg]; exact (below_size (by repeat (first | (with_reducible first | exact HB.out | apply below_alloc | apply pw_below_drewN | apply below_drew1) | exact HB.out))) : w.heap.size ≤ gb366)); clear HB; have HB := n0_; have qj1 := n1_; have qk1 := n2_; have qi1 := n3_; clear n0_ n1_ n2_ n3_; clear hb hbox hg; have hcz12_0 : w11.cell? ⟨gb366, 0, none⟩ = some (.slice A0_0 l0_0.length c0_0) := (blk_cell qj1.out 0).trans rfl; have hcz12_1 : w11.cell? ⟨gb366, 1, none⟩ = some (.slice A0_1 l0_1.length c0_1) := (blk_cell qj1.out 1).trans rfl; have hfz12_0 := blk_frozen qj1.out 0; have hfz12_1 := blk_frozen qj1.out 1) | ((with_reducible refine gate_callee (f := 20) rfl ?_); refine goesL_ (some 10) rfl rfl Tryd.func20 (by kernel_rfl) rfl #[.agg #[.slice A0_0 l0_0.length c0_0, .slice A0_1 l0_1.length c0_1]] rfl (by (try simp only [List.map_toArray, List.map_cons, List.map_nil]); first | done | rfl | (simp only [List.length_drop, List.length_take]; rfl)) ?_; (with_reducible refine (spec_l9Form.calls k _ _ l0_0 _ _ l0_1 true _ ?side1 ?side2 ?side3 ?side4 A2.out).mono ?_); (case side1 => repeat (first | exact (Kd.C_below HR0_0.out HB.out) | (with_reducible refine Kd.C_alloc ?_ _) | (with_reducible refine Kd.C_drewN ?_ _) | (with_reducible refine Kd.C_drew ?_))); (case side2 => exact HC0_0.out); (case side3 => repeat (first | exact (Kd.C_below HR0_1.out HB.out) | (with_reducible refine Kd.C_alloc ?_ _) | (with_reducible refine Kd.C_drewN ?_ _) | (with_reducible refine Kd.C_drew ?_))); (case side4 => exact HC0_1.out); rintro e w13 ⟨rfl, hb⟩; refine ⟨_, rfl, ?_⟩; have n0_ := Aside0.mk (blk_below (g := gb366) (o := .cells #[.slice A0_0 l0_0.length c0_0, .slice A0_1 l0_1.length c0_1] 26 (0, 0)) (by (with_reducible repeat (first | refine blk_drewN ?_ _ | refine blk_drew ?_ | refine blk_alloc ?_ _)); exact qj1.out) hb); have n1_ := Aside0.mk (below_step (by repeat (first | (with_reducible first | exact HB.out | apply below_alloc | apply pw_below_drewN | apply below_drew1 | refine below_set ?_ qi1.out) | exact HB.out)) hb); clear qj1; clear HB; have qj1 := n0_; have HB := n1_; clear n0_ n1_; (try clear hb); (try clear hb2); (try clear hk); (try clear hi); have hcz14_0 : w13.cell? ⟨gb366, 0, none⟩ = some (.slice A0_0 l0_0.length c0_0) := (blk_cell qj1.out 0).trans rfl; have hcz14_1 : w13.cell? ⟨gb366, 1, none⟩ = some (.slice A0_1 l0_1.length c0_1) := (blk_cell qj1.out 1).trans rfl; have hfz14_0 := blk_frozen qj1.out 0; have hfz14_1 := blk_frozen qj1.out 1) | ((with_reducible refine gate_callee (f := 21) rfl ?_); refine goesL_ (some 13) rfl rfl Tryd.func21 (by kernel_rfl) rfl #[.agg #[.slice A0_0 l0_0.length c0_0, .slice A0_1 l0_1.length c0_1]] rfl (by (try simp only [List.map_toArray, List.map_cons, List.map_nil]); first | done | rfl | (simp only [List.length_drop, List.length_take]; rfl)) ?_; (with_reducible refine (spec_l9Names.calls k _ _ l0_0 _ _ l0_1 false _ ?side1 ?side2 ?side3 ?side4 A4.out).mono ?_); (case side1 => repeat (first | exact (Kd.C_below HR0_0.out HB.out) | (with_reducible refine Kd.C_alloc ?_ _) | (with_reducible refine Kd.C_drewN ?_ _) | (with_reducible refine Kd.C_drew ?_))); (case side2 => exact HC0_0.out); (case side3 => repeat (first | exact (Kd.C_below HR0_1.out HB.out) | (with_reducible refine Kd.C_alloc ?_ _) | (with_reducible refine Kd.C_drewN ?_ _) | (with_reducible refine Kd.C_drew ?_))); (case side4 => exact HC0_1.out); rintro e w15 ⟨rfl, hb⟩; refine ⟨_, rfl, ?_⟩; have n0_ := Aside0.mk (blk_below (g := gb366) (o := .cells #[.slice A0_0 l0_0.length c0_0, .slice A0_1 l0_1.length c0_1] 26 (0, 0)) (by (with_reducible repeat (first | refine blk_drewN ?_ _ | refine blk_drew ?_ | refine blk_alloc ?_ _)); exact qj1.out) hb); have n1_ := Aside0.mk (below_step (by repeat (first | (with_reducible first | exact HB.out | apply below_alloc | apply pw_below_drewN | apply below_drew1 | refine below_set ?_ qi1.out) | exact HB.out)) hb); clear qj1; clear HB; have qj1 := n0_; have HB := n1_; clear n0_ n1_; (try clear hb); (try clear hb2); (try clear hk); (try clear hi)))
   go_loopg [3] k (fun kq v3 w' => ∃ (x3_1 : Int), v3 = .int .i64 x3_1 ∧ Aside0 (spec_IdlCheck.l0 kq x3_1 l0_0 l0_1 = some r) ∧ Aside0 (kq ≤ k) ∧ Aside0 (w'.heap[gb366]? = some (.cells #[(.slice A0_0 l0_0.length c0_0), (.slice A0_1 l0_1.length c0_1)] 26 (0, 0))) ∧ Aside0 (Below w.heap.size w w'))
   case atStart => exact ⟨(0), (by first | rfl | (simp; done) | (simp [*]; done)), H', ⟨Nat.le_refl _⟩, ⟨by (with_reducible repeat (first | refine blk_drewN ?_ _ | refine blk_drew ?_ | refine blk_alloc ?_ _)); exact qj1.out⟩, ⟨by repeat (first | (with_reducible first | exact HB.out | apply below_alloc | apply pw_below_drewN | apply below_drew1 | refine below_set ?_ qi1.out) | exact HB.out)⟩⟩
   case round =>
    clear H'
    try clear c2
    try clear p2
    try clear c3
    try clear c5
    try clear c6
    try clear hcz12_0
    try clear hcz12_1
    try clear hcz14_0
    try clear hcz14_1
    try clear hcz7_0
    try clear hcz7_1
    try clear hcz9_0
    try clear hcz9_1
    try clear hfz12_0
    try clear hfz12_1
    try clear hfz14_0
    try clear hfz14_1
    try clear hfz7_0
    try clear hfz7_1
    try clear hfz9_0
    try clear hfz9_1
    obtain ⟨x3_1, rfl, HA, HK1, qj1, HB⟩ := hrel
    cases gk with
    | zero => exact absurd HA.out (by simp [spec_IdlCheck.l0])
    | succ k1 =>
     have H := HA.out
     clear HA
     simp only [spec_IdlCheck.l0] at H
     by_cases c16 : x3_1 < (l0_0.length : Int)
     ·rw [if_pos c16] at H
      have c16b0 : decide (x3_1 < (l0_0.length : Int)) = true := decide_eq_true c16
      clear c16
      have H' := Aside0.mk H
      clear H
      have hcz17_0 : wr.cell? ⟨gb366, 0, none⟩ = some (.slice A0_0 l0_0.length c0_0) := (blk_cell qj1.out 0).trans rfl
      have hcz17_1 : wr.cell? ⟨gb366, 1, none⟩ = some (.slice A0_1 l0_1.length c0_1) := (blk_cell qj1.out 1).trans rfl
      have hfz17_0 := blk_frozen qj1.out 0
      have hfz17_1 := blk_frozen qj1.out 1
      go_wp2
      go_loopg [4] k1 (fun kq v4 w' => ∃ (x4_2 : Int), v4 = .int .i64 x4_2 ∧ Aside0 (spec_IdlCheck.l1 kq x3_1 x4_2 l0_0 l0_1 = some r) ∧ Aside0 (kq ≤ k1) ∧ Aside0 (w'.heap[gb366]? = some (.cells #[(.slice A0_0 l0_0.length c0_0), (.slice A0_1 l0_1.length c0_1)] 26 (0, 0))) ∧ Aside0 (Below w.heap.size w w'))
      case atStart => exact ⟨(0), (by first | rfl | (simp; done) | (simp [*]; done)), H', ⟨Nat.le_refl _⟩, ⟨by (with_reducible repeat (first | refine blk_drewN ?_ _ | refine blk_drew ?_ | refine blk_alloc ?_ _)); exact qj1.out⟩, ⟨by repeat (first | (with_reducible first | exact HB.out | apply below_alloc | apply pw_below_drewN | apply below_drew1 | refine below_set ?_ qi1.out) | exact HB.out)⟩⟩
      case round =>
       clear H'
       try clear c1
       try clear c2
       try clear p2
       try clear c3
       try clear c5
       try clear c6
       try clear c16
       try clear c16b0
       try clear hcz12_0
       try clear hcz12_1
       try clear hcz14_0
       try clear hcz14_1
       try clear hcz17_0
       try clear hcz17_1
       try clear hcz7_0
       try clear hcz7_1
       try clear hcz9_0
       try clear hcz9_1
       try clear hfz12_0
       try clear hfz12_1
       try clear hfz14_0
       try clear hfz14_1
       try clear hfz17_0
       try clear hfz17_1
       try clear hfz7_0
       try clear hfz7_1
       try clear hfz9_0
       try clear hfz9_1
       try clear p2
       obtain ⟨x4_2, rfl, HA, HK2, qj1, HB⟩ := hrel
       cases gk with
       | zero => exact absurd HA.out (by simp [spec_IdlCheck.l1])
       | succ k2 =>
        have H := HA.out
        clear HA
        simp only [spec_IdlCheck.l1] at H
        by_cases c18 : 0 ≤ x3_1
        ·rw [if_pos c18] at H
         have c18b0 : decide (0 ≤ x3_1) = true := decide_eq_true c18
         clear c18
         by_cases c19 : x3_1 < (l0_0.length : Int)
         ·rw [if_pos c19] at H
          have c19b0 : decide (x3_1 < (l0_0.length : Int)) = true := decide_eq_true c19
          clear c19
          by_cases c20 : x4_2 < (((rd_T32 l0_0 x3_1).f1).length : Int)
          ·rw [if_pos c20] at H
           have c20b0 : decide (x4_2 < (((rd_T32 l0_0 x3_1).f1).length : Int)) = true := decide_eq_true c20
           clear c20
           by_cases c21 : 0 ≤ x4_2
           ·rw [if_pos c21] at H
            have c21b0 : decide (0 ≤ x4_2) = true := decide_eq_true c21
            clear c21
            replace H := Option.bind_eq_some_iff.mp H
            obtain ⟨t372, A220, H⟩ := H
            replace H : (if t372 = 0 then (some 3) else ((spec_l9Of.f k2 l0_0 l0_1 ((rd_T36 ((rd_T32 l0_0 x3_1).f1) x4_2).f2.f0) false).bind fun t375 => (if t375 = 0 then (some 3) else (spec_IdlCheck.l1 k2 x3_1 (wrap64 (x4_2 + 1)) l0_0 l0_1)))) = some r := H
            have A22 := Aside0.mk A220
            clear A220
            by_cases c23 : t372 = 0
            ·rw [if_pos c23] at H
             have c23b0 : (t372 == 0) = true := beq_iff_eq.mpr c23
             have c23b1 : (t372 != 0) = false := bne_eq_false_iff_eq.mpr c23
             clear c23
             obtain rfl := Option.some.inj H
             have hcz24_0 : wr.cell? ⟨gb366, 0, none⟩ = some (.slice A0_0 l0_0.length c0_0) := (blk_cell qj1.out 0).trans rfl
             have hcz24_1 : wr.cell? ⟨gb366, 1, none⟩ = some (.slice A0_1 l0_1.length c0_1) := (blk_cell qj1.out 1).trans rfl
             have hfz24_0 := blk_frozen qj1.out 0
             have hfz24_1 := blk_frozen qj1.out 1
             have p369 : 0 ≤ (x3_1 : Int) := of_decide_eq_true (by first | (with_reducible assumption) | assumption)
             have q369 : x3_1 < (l0_0.length : Int) := of_decide_eq_true (by first | (with_reducible assumption) | assumption)
             obtain ⟨ad369, A369_1, c369_1, e369, qi, qb1, hl369_1, hi369_1⟩ := at_T32 HR0_0.out x3_1 p369 q369
             cases e369
             replace qi := (HB.out.cell (World.block_lt_of_cell? w _ qi)).trans qi
             replace qb1 := (HB.out.cell (World.block_lt_of_cell? w _ qb1)).trans qb1
             have HR369_1 := Aside0.mk hi369_1
             have HC369_1 := Aside0.mk hl369_1
             clear hi369_1 hl369_1
             replace p369 := eq_true p369
             replace q369 := eq_true q369
             try go_wp2
             have n0_ := Aside0.mk (blk_drew qj1.out)
             have n1_ := Aside0.mk (below_drew1 HB.out)
             clear qj1
             clear HB
             have qj1 := n0_
             have HB := n1_
             clear n0_ n1_
             have p370 : 0 ≤ (x3_1 : Int) := of_decide_eq_true (by first | (with_reducible assumption) | assumption)
             have q370 : x3_1 < (l0_0.length : Int) := of_decide_eq_true (by first | (with_reducible assumption) | assumption)
             obtain ⟨ad370, A370_1, c370_1, e370, qw, qa1, hl370_1, hi370_1⟩ := at_T32 HR0_0.out x3_1 p370 q370
             have hw370_1 := qa1
             have hw370_0 := qw
             obtain rfl : ad369 = ad370 := (by injection e370)
             replace qw := (HB.out.cell (World.block_lt_of_cell? w _ qw)).trans qw
             replace qa1 := (HB.out.cell (World.block_lt_of_cell? w _ qa1)).trans qa1
             have HR370_1 := Aside0.mk hi370_1
             have HC370_1 := Aside0.mk hl370_1
             clear hi370_1 hl370_1
             replace p370 := eq_true p370
             replace q370 := eq_true q370
             have p371 : 0 ≤ (x4_2 : Int) := of_decide_eq_true (by first | (with_reducible assumption) | assumption)
             have q371 : x4_2 < (((rd_T32 l0_0 x3_1).f1).length : Int) := of_decide_eq_true (by first | (with_reducible assumption) | assumption)
             obtain ⟨ad371, e371, qe, qs, qn, qj, qm, qd1⟩ := at_T36 HR370_1.out x4_2 p371 q371
             have hw371_5 := qd1
             have hw371_4 := qm
             have hw371_3 := qj
             have hw371_2 := qn
             have hw371_1 := qs
             have hw371_0 := qe
             cases e371
             replace qe := (HB.out.cell (World.block_lt_of_cell? w _ qe)).trans qe
             replace qs := (HB.out.cell (World.block_lt_of_cell? w _ qs)).trans qs
             replace qn := (HB.out.cell (World.block_lt_of_cell? w _ qn)).trans qn
             replace qj := (HB.out.cell (World.block_lt_of_cell? w _ qj)).trans qj
             replace qm := (HB.out.cell (World.block_lt_of_cell? w _ qm)).trans qm
             replace qd1 := (HB.out.cell (World.block_lt_of_cell? w _ qd1)).trans qd1
             replace p371 := eq_true p371
             replace q371 := eq_true q371
             refine start_ (n := 30) (S := fun w' => w'.cell? ⟨gb366, 0, none⟩ = some (.slice (some ad369) l0_0.length c0_0) ∧ w'.cell? ⟨gb366, 1, none⟩ = some (.slice A0_1 l0_1.length c0_1) ∧ w'.cell? (ad369.add ((x3_1).toNat * 2)) = some (.string ((rd_T32 l0_0 x3_1).f0)) ∧ w'.cell? ⟨(ad369.add ((x3_1).toNat * 2)).block, (ad369.add ((x3_1).toNat * 2)).off + 1, none⟩ = some (.slice (some ad371) ((rd_T32 l0_0 x3_1).f1).length c370_1) ∧ w'.cell? (ad371.add ((x4_2).toNat * 6)) = some (.string ((rd_T36 ((rd_T32 l0_0 x3_1).f1) x4_2).f0)) ∧ w'.cell? ⟨(ad371.add ((x4_2).toNat * 6)).block, (ad371.add ((x4_2).toNat * 6)).off + 1, none⟩ = some (.int .i64 ((rd_T36 ((rd_T32 l0_0 x3_1).f1) x4_2).f1)) ∧ w'.cell? ⟨(ad371.add ((x4_2).toNat * 6)).block, (ad371.add ((x4_2).toNat * 6)).off + 2, none⟩ = some (.string ((rd_T36 ((rd_T32 l0_0 x3_1).f1) x4_2).f2.f0)) ∧ w'.cell? ⟨(ad371.add ((x4_2).toNat * 6)).block, (ad371.add ((x4_2).toNat * 6)).off + 3, none⟩ = some (.bool ((rd_T36 ((rd_T32 l0_0 x3_1).f1) x4_2).f2.f1)) ∧ w'.cell? ⟨(ad371.add ((x4_2).toNat * 6)).block, (ad371.add ((x4_2).toNat * 6)).off + 4, none⟩ = some (.bool ((rd_T36 ((rd_T32 l0_0 x3_1).f1) x4_2).f3)) ∧ w'.cell? ⟨(ad371.add ((x4_2).toNat * 6)).block, (ad371.add ((x4_2).toNat * 6)).off + 5, none⟩ = some (.int .i64 ((rd_T36 ((rd_T32 l0_0 x3_1).f1) x4_2).f4))) (ds := []) #[false, false, false, false, false, false, false, false, false, false, false, false, false, false, false, false, false, false, false, false, false, false, false, false, false, false, false, false, false, false] (by kernel_rfl) rfl rfl ⟨(blk_cell qj1.out 0).trans rfl, (blk_cell qj1.out 1).trans rfl, ((HB.out.cell (World.block_lt_of_cell? w _ hw370_0)).trans hw370_0), ((HB.out.cell (World.block_lt_of_cell? w _ hw370_1)).trans hw370_1), ((HB.out.cell (World.block_lt_of_cell? w _ hw371_0)).trans hw371_0), ((HB.out.cell (World.block_lt_of_cell? w _ hw371_1)).trans hw371_1), ((HB.out.cell (World.block_lt_of_cell? w _ hw371_2)).trans hw371_2), ((HB.out.cell (World.block_lt_of_cell? w _ hw371_3)).trans hw371_3), ((HB.out.cell (World.block_lt_of_cell? w _ hw371_4)).trans hw371_4), ((HB.out.cell (World.block_lt_of_cell? w _ hw371_5)).trans hw371_5)⟩ (fun hHeld => ?_); refine with_tabW spec_IdlCheck.tab11 spec_IdlCheck.bits11 (fun HT_ HW_ => ?_)
             generalize wr.drew = w25 at qj1 HB HR370_1 qw qa1 qe qs qn qj qm qd1 hHeld ⊢
             refine pure_ (i := 1) (N := some 33) (v := ?_) (a' := ?_) #[false, true, false, false, false, false, false, false, false, false, false, false, false, false, false, false, false, false, false, false, false, false, false, false, false, false, false, false, false, false] rfl rfl (any_of HT_.out (by kernel_rfl)) (fun _ _ _ h => h) (Or.inl ⟨by rfl, ?_⟩) ?_ ?_
             rotate_left
             ·intro w'
              go_simp
              with_reducible rfl
             rotate_left
             ·simp only [Act.put, List.setIfInBounds_toArray, List.set_cons_zero, List.set_cons_succ, i64_w, i32_w]
              rfl
             refine pure_ (i := 3) (N := some 35) (v := ?_) (a' := ?_) #[false, true, false, true, false, false, false, false, false, false, false, false, false, false, false, false, false, false, false, false, false, false, false, false, false, false, false, false, false, false] rfl rfl (any_of HT_.out (by kernel_rfl)) (fun _ _ _ h => h) (Or.inl ⟨by rfl, ?_⟩) ?_ ?_
             rotate_left
             ·intro w'
              go_simp
              with_reducible rfl
             rotate_left
             ·simp only [Act.put, List.setIfInBounds_toArray, List.set_cons_zero, List.set_cons_succ, i64_w, i32_w]
              rfl
             refine pure_ (i := 7) (N := some 39) (v := ?_) (a' := ?_) #[false, true, false, true, false, false, false, true, false, false, false, false, false, false, false, false, false, false, false, false, false, false, false, false, false, false, false, false, false, false] rfl rfl (any_of HT_.out (by kernel_rfl)) (fun _ _ _ h => h) (Or.inl ⟨by rfl, ?_⟩) ?_ ?_
             rotate_left
             ·intro w'
              go_simp
              with_reducible rfl
             rotate_left
             ·simp only [Act.put, List.setIfInBounds_toArray, List.set_cons_zero, List.set_cons_succ, i64_w, i32_w]
              rfl
             refine take_ (i := 0) (N := some 32) (v := ?_) (a' := ?_) #[true, true, false, true, false, false, false, true, false, false, false, false, false, false, false, false, false, false, false, false, false, false, false, false, false, false, false, false, false, false] rfl rfl (take_ofW HT_.out HW_.out (by kernel_rfl)) (fun _ _ _ h => h) (Or.inl ⟨by rfl, ?_⟩) hHeld ?_ ?_
             rotate_left
             ·rintro w' ⟨s0, s1, s2, s3, s4, s5, s6, s7, s8, s9⟩
              go_simp
              with_reducible rfl
             rotate_left
             ·simp only [Act.put, List.setIfInBounds_toArray, List.set_cons_zero, List.set_cons_succ, i64_w, i32_w]
              rfl
             refine take_ (i := 2) (N := some 34) (v := ?_) (a' := ?_) #[true, true, true, true, false, false, false, true, false, false, false, false, false, false, false, false, false, false, false, false, false, false, false, false, false, false, false, false, false, false] rfl rfl (take_ofW HT_.out HW_.out (by kernel_rfl)) (fun _ _ _ h => h) (Or.inl ⟨by rfl, ?_⟩) hHeld ?_ ?_
             rotate_left
             ·rintro w' ⟨s0, s1, s2, s3, s4, s5, s6, s7, s8, s9⟩
              go_simp
              with_reducible rfl
             rotate_left
             ·simp only [Act.put, List.setIfInBounds_toArray, List.set_cons_zero, List.set_cons_succ, i64_w, i32_w]
              rfl
             refine pure_ (i := 4) (N := some 36) (v := ?_) (a' := ?_) #[true, true, true, true, true, false, false, true, false, false, false, false, false, false, false, false, false, false, false, false, false, false, false, false, false, false, false, false, false, false] rfl rfl (any_of HT_.out (by kernel_rfl)) (fun _ _ _ h => h) (Or.inl ⟨by rfl, ?_⟩) ?_ ?_
             rotate_left
             ·intro w'
              go_simp
              with_reducible rfl
             rotate_left
             ·simp only [Act.put, List.setIfInBounds_toArray, List.set_cons_zero, List.set_cons_succ, i64_w, i32_w]
              rfl
             refine pure_ (i := 5) (N := some 37) (v := ?_) (a' := ?_) #[true, true, true, true, true, true, false, true, false, false, false, false, false, false, false, false, false, false, false, false, false, false, false, false, false, false, false, false, false, false] rfl rfl (any_of HT_.out (by kernel_rfl)) (fun _ _ _ h => h) (Or.inl ⟨by rfl, ?_⟩) ?_ ?_
             rotate_left
             ·intro w'
              go_simp
              with_reducible rfl
             rotate_left
             ·simp only [Act.put, List.setIfInBounds_toArray, List.set_cons_zero, List.set_cons_succ, i64_w, i32_w]
              rfl
             refine take_ (i := 6) (N := some 38) (v := ?_) (a' := ?_) #[true, true, true, true, true, true, true, true, false, false, false, false, false, false, false, false, false, false, false, false, false, false, false, false, false, false, false, false, false, false] rfl rfl (take_ofW HT_.out HW_.out (by kernel_rfl)) (fun _ _ _ h => h) (Or.inl ⟨by rfl, ?_⟩) hHeld ?_ ?_
             rotate_left
             ·rintro w' ⟨s0, s1, s2, s3, s4, s5, s6, s7, s8, s9⟩
              go_simp
              with_reducible rfl
             rotate_left
             ·simp only [Act.put, List.setIfInBounds_toArray, List.set_cons_zero, List.set_cons_succ, i64_w, i32_w]
              rfl
             refine pure_ (i := 8) (N := some 40) (v := ?_) (a' := ?_) #[true, true, true, true, true, true, true, true, true, false, false, false, false, false, false, false, false, false, false, false, false, false, false, false, false, false, false, false, false, false] rfl rfl (any_of HT_.out (by kernel_rfl)) (fun _ _ _ h => h) (Or.inl ⟨by rfl, ?_⟩) ?_ ?_
             rotate_left
             ·intro w'
              go_simp
              with_reducible rfl
             rotate_left
             ·simp only [Act.put, List.setIfInBounds_toArray, List.set_cons_zero, List.set_cons_succ, i64_w, i32_w]
              rfl
             refine pure_ (i := 9) (N := some 41) (v := ?_) (a' := ?_) #[true, true, true, true, true, true, true, true, true, true, false, false, false, false, false, false, false, false, false, false, false, false, false, false, false, false, false, false, false, false] rfl rfl (any_of HT_.out (by kernel_rfl)) (fun _ _ _ h => h) (Or.inl ⟨by rfl, ?_⟩) ?_ ?_
             rotate_left
             ·intro w'
              go_simp
              with_reducible rfl
             rotate_left
             ·simp only [Act.put, List.setIfInBounds_toArray, List.set_cons_zero, List.set_cons_succ, i64_w, i32_w]
              rfl
             refine take_ (i := 10) (N := some 42) (v := ?_) (a' := ?_) #[true, true, true, true, true, true, true, true, true, true, true, false, false, false, false, false, false, false, false, false, false, false, false, false, false, false, false, false, false, false] rfl rfl (take_ofW HT_.out HW_.out (by kernel_rfl)) (fun _ _ _ h => h) (Or.inl ⟨by rfl, ?_⟩) hHeld ?_ ?_
             rotate_left
             ·rintro w' ⟨s0, s1, s2, s3, s4, s5, s6, s7, s8, s9⟩
              go_simp
              with_reducible rfl
             rotate_left
             ·simp only [Act.put, List.setIfInBounds_toArray, List.set_cons_zero, List.set_cons_succ, i64_w, i32_w]
              rfl
             refine one_ (i := 11) (N := some 43) #[true, true, true, true, true, true, true, true, true, true, true, true, false, false, false, false, false, false, false, false, false, false, false, false, false, false, false, false, false, false] rfl rfl (one_of HT_.out (by kernel_rfl)) (by decide) (fun K hK => ?_)
             refine goes_ Tryd.func22 (by kernel_rfl) rfl #[.agg #[.slice (some ad369) l0_0.length c0_0, .slice A0_1 l0_1.length c0_1], .agg #[.string ((rd_T36 ((rd_T32 l0_0 x3_1).f1) x4_2).f2.f0), .bool ((rd_T36 ((rd_T32 l0_0 x3_1).f1) x4_2).f2.f1)]] (by rfl) rfl rfl (by (try simp only [List.map_toArray, List.map_cons, List.map_nil]); first | done | rfl | (simp only [List.length_drop, List.length_take]; rfl)) ?_
             with_reducible refine (spec_l9Of.calls k2 _ _ l0_0 _ _ l0_1 ((rd_T36 ((rd_T32 l0_0 x3_1).f1) x4_2).f2.f0) ((rd_T36 ((rd_T32 l0_0 x3_1).f1) x4_2).f2.f1) t372 _ ?side1 ?side2 ?side3 ?side4 A22.out).mono ?_
             (case side1 => repeat (first | exact (Kd.C_below HR0_0.out HB.out) | (with_reducible refine Kd.C_alloc ?_ _) | (with_reducible refine Kd.C_drewN ?_ _) | (with_reducible refine Kd.C_drew ?_)))
             (case side2 => exact HC0_0.out)
             (case side3 => repeat (first | exact (Kd.C_below HR0_1.out HB.out) | (with_reducible refine Kd.C_alloc ?_ _) | (with_reducible refine Kd.C_drewN ?_ _) | (with_reducible refine Kd.C_drew ?_)))
             (case side4 => exact HC0_1.out)
             rintro e w26 ⟨rfl, hb⟩
             refine ⟨_, rfl, ?_⟩
             have n0_ := Aside0.mk (blk_below (g := gb366) (o := .cells #[.slice (some ad369) l0_0.length c0_0, .slice A0_1 l0_1.length c0_1] 26 (0, 0)) (by (with_reducible repeat (first | refine blk_drewN ?_ _ | refine blk_drew ?_ | refine blk_alloc ?_ _)); exact qj1.out) hb)
             have n1_ := Aside0.mk (below_step (by repeat (first | (with_reducible first | exact HB.out | apply below_alloc | apply pw_below_drewN | apply below_drew1 | refine below_set ?_ qi1.out) | exact HB.out)) hb)
             clear qj1
             clear HB
             have qj1 := n0_
             have HB := n1_
             clear n0_ n1_
             (try clear hb)
             (try clear hb2)
             (try clear hk)
             (try clear hi)
             refine hK.out _ _ ⟨(blk_cell qj1.out 0).trans rfl, (blk_cell qj1.out 1).trans rfl, ((HB.out.cell (World.block_lt_of_cell? w _ hw370_0)).trans hw370_0), ((HB.out.cell (World.block_lt_of_cell? w _ hw370_1)).trans hw370_1), ((HB.out.cell (World.block_lt_of_cell? w _ hw371_0)).trans hw371_0), ((HB.out.cell (World.block_lt_of_cell? w _ hw371_1)).trans hw371_1), ((HB.out.cell (World.block_lt_of_cell? w _ hw371_2)).trans hw371_2), ((HB.out.cell (World.block_lt_of_cell? w _ hw371_3)).trans hw371_3), ((HB.out.cell (World.block_lt_of_cell? w _ hw371_4)).trans hw371_4), ((HB.out.cell (World.block_lt_of_cell? w _ hw371_5)).trans hw371_5)⟩ (fun hHeld => ?_)
             clear hK K
             refine norm_ (a' := ?_) ?_ ?_
             rotate_left
             ·show Act.put _ (some 43) _ = _
              simp only [Act.put, List.setIfInBounds_toArray, List.set_cons_zero, List.set_cons_succ, i64_w, i32_w]
              rfl
             refine pure_ (i := 12) (N := some 44) (v := ?_) (a' := ?_) #[true, true, true, true, true, true, true, true, true, true, true, true, true, false, false, false, false, false, false, false, false, false, false, false, false, false, false, false, false, false] rfl rfl (any_of HT_.out (by kernel_rfl)) (fun _ _ _ h => h) (Or.inl ⟨by rfl, ?_⟩) ?_ ?_
             rotate_left
             ·intro w'
              go_simp
              with_reducible rfl
             rotate_left
             ·simp only [Act.put, List.setIfInBounds_toArray, List.set_cons_zero, List.set_cons_succ, i64_w, i32_w]
              rfl
             refine pure_ (i := 13) (N := some 45) (v := ?_) (a' := ?_) #[true, true, true, true, true, true, true, true, true, true, true, true, true, true, false, false, false, false, false, false, false, false, false, false, false, false, false, false, false, false] rfl rfl (any_of HT_.out (by kernel_rfl)) (fun _ _ _ h => h) (Or.inl ⟨by rfl, ?_⟩) ?_ ?_
             rotate_left
             ·intro w'
              go_simp
              with_reducible rfl
             rotate_left
             ·simp only [Act.put, List.setIfInBounds_toArray, List.set_cons_zero, List.set_cons_succ, i64_w, i32_w]
              rfl
             refine pure_ (i := 14) (N := some 46) (v := undef) (a' := ?_) #[true, true, true, true, true, true, true, true, true, true, true, true, true, true, true, false, false, false, false, false, false, false, false, false, false, false, false, false, false, false] rfl rfl (any_of HT_.out (by kernel_rfl)) (fun _ _ _ h => h) (Or.inr ⟨by rfl, rfl⟩) ?_ ?_
             rotate_left
             ·simp only [Act.put, List.setIfInBounds_toArray, List.set_cons_zero, List.set_cons_succ, i64_w, i32_w]
              rfl
             refine pure_ (i := 15) (N := some 47) (v := undef) (a' := ?_) #[true, true, true, true, true, true, true, true, true, true, true, true, true, true, true, true, false, false, false, false, false, false, false, false, false, false, false, false, false, false] rfl rfl (any_of HT_.out (by kernel_rfl)) (fun _ _ _ h => h) (Or.inr ⟨by rfl, rfl⟩) ?_ ?_
             rotate_left
             ·simp only [Act.put, List.setIfInBounds_toArray, List.set_cons_zero, List.set_cons_succ, i64_w, i32_w]
              rfl
             refine pure_ (i := 16) (N := some 48) (v := undef) (a' := ?_) #[true, true, true, true, true, true, true, true, true, true, true, true, true, true, true, true, true, false, false, false, false, false, false, false, false, false, false, false, false, false] rfl rfl (any_of HT_.out (by kernel_rfl)) (fun _ _ _ h => h) (Or.inr ⟨by rfl, rfl⟩) ?_ ?_
             rotate_left
             ·simp only [Act.put, List.setIfInBounds_toArray, List.set_cons_zero, List.set_cons_succ, i64_w, i32_w]
              rfl
             refine pure_ (i := 17) (N := some 49) (v := undef) (a' := ?_) #[true, true, true, true, true, true, true, true, true, true, true, true, true, true, true, true, true, true, false, false, false, false, false, false, false, false, false, false, false, false] rfl rfl (any_of HT_.out (by kernel_rfl)) (fun _ _ _ h => h) (Or.inr ⟨by rfl, rfl⟩) ?_ ?_
             rotate_left
             ·simp only [Act.put, List.setIfInBounds_toArray, List.set_cons_zero, List.set_cons_succ, i64_w, i32_w]
              rfl
             refine pure_ (i := 18) (N := some 50) (v := undef) (a' := ?_) #[true, true, true, true, true, true, true, true, true, true, true, true, true, true, true, true, true, true, true, false, false, false, false, false, false, false, false, false, false, false] rfl rfl (any_of HT_.out (by kernel_rfl)) (fun _ _ _ h => h) (Or.inr ⟨by rfl, rfl⟩) ?_ ?_
             rotate_left
             ·simp only [Act.put, List.setIfInBounds_toArray, List.set_cons_zero, List.set_cons_succ, i64_w, i32_w]
              rfl
             refine pure_ (i := 19) (N := some 51) (v := undef) (a' := ?_) #[true, true, true, true, true, true, true, true, true, true, true, true, true, true, true, true, true, true, true, true, false, false, false, false, false, false, false, false, false, false] rfl rfl (any_of HT_.out (by kernel_rfl)) (fun _ _ _ h => h) (Or.inr ⟨by rfl, rfl⟩) ?_ ?_
             rotate_left
             ·simp only [Act.put, List.setIfInBounds_toArray, List.set_cons_zero, List.set_cons_succ, i64_w, i32_w]
              rfl
             refine pure_ (i := 20) (N := some 52) (v := undef) (a' := ?_) #[true, true, true, true, true, true, true, true, true, true, true, true, true, true, true, true, true, true, true, true, true, false, false, false, false, false, false, false, false, false] rfl rfl (any_of HT_.out (by kernel_rfl)) (fun _ _ _ h => h) (Or.inr ⟨by rfl, rfl⟩) ?_ ?_
             rotate_left
             ·simp only [Act.put, List.setIfInBounds_toArray, List.set_cons_zero, List.set_cons_succ, i64_w, i32_w]
              rfl
             refine pure_ (i := 21) (N := some 53) (v := undef) (a' := ?_) #[true, true, true, true, true, true, true, true, true, true, true, true, true, true, true, true, true, true, true, true, true, true, false, false, false, false, false, false, false, false] rfl rfl (any_of HT_.out (by kernel_rfl)) (fun _ _ _ h => h) (Or.inr ⟨by rfl, rfl⟩) ?_ ?_
             rotate_left
             ·simp only [Act.put, List.setIfInBounds_toArray, List.set_cons_zero, List.set_cons_succ, i64_w, i32_w]
              rfl
             refine pure_ (i := 22) (N := some 54) (v := undef) (a' := ?_) #[true, true, true, true, true, true, true, true, true, true, true, true, true, true, true, true, true, true, true, true, true, true, true, false, false, false, false, false, false, false] rfl rfl (any_of HT_.out (by kernel_rfl)) (fun _ _ _ h => h) (Or.inr ⟨by rfl, rfl⟩) ?_ ?_
             rotate_left
             ·simp only [Act.put, List.setIfInBounds_toArray, List.set_cons_zero, List.set_cons_succ, i64_w, i32_w]
              rfl
             refine pure_ (i := 23) (N := some 55) (v := undef) (a' := ?_) #[true, true, true, true, true, true, true, true, true, true, true, true, true, true, true, true, true, true, true, true, true, true, true, true, false, false, false, false, false, false] rfl rfl (any_of HT_.out (by kernel_rfl)) (fun _ _ _ h => h) (Or.inr ⟨by rfl, rfl⟩) ?_ ?_
             rotate_left
             ·simp only [Act.put, List.setIfInBounds_toArray, List.set_cons_zero, List.set_cons_succ, i64_w, i32_w]
              rfl
             refine pure_ (i := 24) (N := some 56) (v := undef) (a' := ?_) #[true, true, true, true, true, true, true, true, true, true, true, true, true, true, true, true, true, true, true, true, true, true, true, true, true, false, false, false, false, false] rfl rfl (any_of HT_.out (by kernel_rfl)) (fun _ _ _ h => h) (Or.inr ⟨by rfl, rfl⟩) ?_ ?_
             rotate_left
             ·simp only [Act.put, List.setIfInBounds_toArray, List.set_cons_zero, List.set_cons_succ, i64_w, i32_w]
              rfl
             refine pure_ (i := 25) (N := some 57) (v := undef) (a' := ?_) #[true, true, true, true, true, true, true, true, true, true, true, true, true, true, true, true, true, true, true, true, true, true, true, true, true, true, false, false, false, false] rfl rfl (any_of HT_.out (by kernel_rfl)) (fun _ _ _ h => h) (Or.inr ⟨by rfl, rfl⟩) ?_ ?_
             rotate_left
             ·simp only [Act.put, List.setIfInBounds_toArray, List.set_cons_zero, List.set_cons_succ, i64_w, i32_w]
              rfl
             refine pure_ (i := 26) (N := some 58) (v := undef) (a' := ?_) #[true, true, true, true, true, true, true, true, true, true, true, true, true, true, true, true, true, true, true, true, true, true, true, true, true, true, true, false, false, false] rfl rfl (any_of HT_.out (by kernel_rfl)) (fun _ _ _ h => h) (Or.inr ⟨by rfl, rfl⟩) ?_ ?_
             rotate_left
             ·simp only [Act.put, List.setIfInBounds_toArray, List.set_cons_zero, List.set_cons_succ, i64_w, i32_w]
              rfl
             refine pure_ (i := 27) (N := some 59) (v := undef) (a' := ?_) #[true, true, true, true, true, true, true, true, true, true, true, true, true, true, true, true, true, true, true, true, true, true, true, true, true, true, true, true, false, false] rfl rfl (any_of HT_.out (by kernel_rfl)) (fun _ _ _ h => h) (Or.inr ⟨by rfl, rfl⟩) ?_ ?_
             rotate_left
             ·simp only [Act.put, List.setIfInBounds_toArray, List.set_cons_zero, List.set_cons_succ, i64_w, i32_w]
              rfl
             refine pure_ (i := 28) (N := some 60) (v := undef) (a' := ?_) #[true, true, true, true, true, true, true, true, true, true, true, true, true, true, true, true, true, true, true, true, true, true, true, true, true, true, true, true, true, false] rfl rfl (any_of HT_.out (by kernel_rfl)) (fun _ _ _ h => h) (Or.inr ⟨by rfl, rfl⟩) ?_ ?_
             rotate_left
             ·simp only [Act.put, List.setIfInBounds_toArray, List.set_cons_zero, List.set_cons_succ, i64_w, i32_w]
              rfl
             refine pure_ (i := 29) (N := some 61) (v := ?_) (a' := ?_) #[true, true, true, true, true, true, true, true, true, true, true, true, true, true, true, true, true, true, true, true, true, true, true, true, true, true, true, true, true, true] rfl rfl (any_of HT_.out (by kernel_rfl)) (fun _ _ _ h => h) (Or.inl ⟨by rfl, ?_⟩) ?_ ?_
             rotate_left
             ·intro w'
              go_simp
              with_reducible rfl
             rotate_left
             ·simp only [Act.put, List.setIfInBounds_toArray, List.set_cons_zero, List.set_cons_succ, i64_w, i32_w]
              rfl
             refine done_ (done_of HT_.out (by kernel_rfl)) ?_
             try go_wp2
             go_ret
             exact ⟨by first | rfl | (simp [errW_none, errW_some] <;> rfl) | (simp [*, errW_none, errW_some] <;> rfl) | (simp only [Bool.and_eq_true, beq_iff_eq, Bool.not_eq_true', Bool.not_eq_eq_eq_not, Bool.not_true, Bool.not_false] at *; simp [*]), by repeat (first | (with_reducible first | exact HB.out | apply below_alloc | apply pw_below_drewN | apply below_drew1 | refine below_set ?_ qi1.out) | exact HB.out)⟩
            ·rw [if_neg c23] at H
             have c23b0 : (t372 == 0) = false := beq_eq_false_iff_ne.mpr c23
             have c23b1 : (t372 != 0) = true := bne_iff_ne.mpr c23
             replace H := Option.bind_eq_some_iff.mp H
             obtain ⟨t375, A270, H⟩ := H
             replace H : (if t375 = 0 then (some 3) else (spec_IdlCheck.l1 k2 x3_1 (wrap64 (x4_2 + 1)) l0_0 l0_1)) = some r := H
             have A27 := Aside0.mk A270
             clear A270
             by_cases c28 : t375 = 0
             ·rw [if_pos c28] at H
              have c28b0 : (t375 == 0) = true := beq_iff_eq.mpr c28
              have c28b1 : (t375 != 0) = false := bne_eq_false_iff_eq.mpr c28
              clear c28
              obtain rfl := Option.some.inj H
              have hcz29_0 : wr.cell? ⟨gb366, 0, none⟩ = some (.slice A0_0 l0_0.length c0_0) := (blk_cell qj1.out 0).trans rfl
              have hcz29_1 : wr.cell? ⟨gb366, 1, none⟩ = some (.slice A0_1 l0_1.length c0_1) := (blk_cell qj1.out 1).trans rfl
              have hfz29_0 := blk_frozen qj1.out 0
              have hfz29_1 := blk_frozen qj1.out 1
              have p369 : 0 ≤ (x3_1 : Int) := of_decide_eq_true (by first | (with_reducible assumption) | assumption)
              have q369 : x3_1 < (l0_0.length : Int) := of_decide_eq_true (by first | (with_reducible assumption) | assumption)
              obtain ⟨ad369, A369_1, c369_1, e369, qi, qb1, hl369_1, hi369_1⟩ := at_T32 HR0_0.out x3_1 p369 q369
              cases e369
              replace qi := (HB.out.cell (World.block_lt_of_cell? w _ qi)).trans qi
              replace qb1 := (HB.out.cell (World.block_lt_of_cell? w _ qb1)).trans qb1
              have HR369_1 := Aside0.mk hi369_1
              have HC369_1 := Aside0.mk hl369_1
              clear hi369_1 hl369_1
              replace p369 := eq_true p369
              replace q369 := eq_true q369
              try go_wp2
              have n0_ := Aside0.mk (blk_drew qj1.out)
              have n1_ := Aside0.mk (below_drew1 HB.out)
              clear qj1
              clear HB
              have qj1 := n0_
              have HB := n1_
              clear n0_ n1_
              have p370 : 0 ≤ (x3_1 : Int) := of_decide_eq_true (by first | (with_reducible assumption) | assumption)
              have q370 : x3_1 < (l0_0.length : Int) := of_decide_eq_true (by first | (with_reducible assumption) | assumption)
              obtain ⟨ad370, A370_1, c370_1, e370, qw, qa1, hl370_1, hi370_1⟩ := at_T32 HR0_0.out x3_1 p370 q370
              have hw370_1 := qa1
              have hw370_0 := qw
              obtain rfl : ad369 = ad370 := (by injection e370)
              replace qw := (HB.out.cell (World.block_lt_of_cell? w _ qw)).trans qw
              replace qa1 := (HB.out.cell (World.block_lt_of_cell? w _ qa1)).trans qa1
              have HR370_1 := Aside0.mk hi370_1
              have HC370_1 := Aside0.mk hl370_1
              clear hi370_1 hl370_1
              replace p370 := eq_true p370
              replace q370 := eq_true q370
              have p371 : 0 ≤ (x4_2 : Int) := of_decide_eq_true (by first | (with_reducible assumption) | assumption)
              have q371 : x4_2 < (((rd_T32 l0_0 x3_1).f1).length : Int) := of_decide_eq_true (by first | (with_reducible assumption) | assumption)
              obtain ⟨ad371, e371, qe, qs, qn, qj, qm, qd1⟩ := at_T36 HR370_1.out x4_2 p371 q371
              have hw371_5 := qd1
              have hw371_4 := qm
              have hw371_3 := qj
              have hw371_2 := qn
              have hw371_1 := qs
              have hw371_0 := qe
              cases e371
              replace qe := (HB.out.cell (World.block_lt_of_cell? w _ qe)).trans qe
              replace qs := (HB.out.cell (World.block_lt_of_cell? w _ qs)).trans qs
              replace qn := (HB.out.cell (World.block_lt_of_cell? w _ qn)).trans qn
              replace qj := (HB.out.cell (World.block_lt_of_cell? w _ qj)).trans qj
              replace qm := (HB.out.cell (World.block_lt_of_cell? w _ qm)).trans qm
              replace qd1 := (HB.out.cell (World.block_lt_of_cell? w _ qd1)).trans qd1
              replace p371 := eq_true p371
              replace q371 := eq_true q371
              have p373 : 0 ≤ (x3_1 : Int) := of_decide_eq_true (by first | (with_reducible assumption) | assumption)
              have q373 : x3_1 < (l0_0.length : Int) := of_decide_eq_true (by first | (with_reducible assumption) | assumption)
              obtain ⟨ad373, A373_1, c373_1, e373, qf1, qc, hl373_1, hi373_1⟩ := at_T32 HR0_0.out x3_1 p373 q373
              have hw373_1 := qc
              have hw373_0 := qf1
              obtain rfl : ad369 = ad373 := (by injection e373)
              replace qf1 := (HB.out.cell (World.block_lt_of_cell? w _ qf1)).trans qf1
              replace qc := (HB.out.cell (World.block_lt_of_cell? w _ qc)).trans qc
              have HR373_1 := Aside0.mk hi373_1
              have HC373_1 := Aside0.mk hl373_1
              clear hi373_1 hl373_1
              replace p373 := eq_true p373
              replace q373 := eq_true q373
              have p374 : 0 ≤ (x4_2 : Int) := of_decide_eq_true (by first | (with_reducible assumption) | assumption)
              have q374 : x4_2 < (((rd_T32 l0_0 x3_1).f1).length : Int) := of_decide_eq_true (by first | (with_reducible assumption) | assumption)
              obtain ⟨ad374, e374, qz, ql, qt, qg, qk, qb⟩ := at_T36 HR373_1.out x4_2 p374 q374
              have hw374_5 := qb
              have hw374_4 := qk
              have hw374_3 := qg
              have hw374_2 := qt
              have hw374_1 := ql
              have hw374_0 := qz
              cases e374
              replace qz := (HB.out.cell (World.block_lt_of_cell? w _ qz)).trans qz
              replace ql := (HB.out.cell (World.block_lt_of_cell? w _ ql)).trans ql
              replace qt := (HB.out.cell (World.block_lt_of_cell? w _ qt)).trans qt
              replace qg := (HB.out.cell (World.block_lt_of_cell? w _ qg)).trans qg
              replace qk := (HB.out.cell (World.block_lt_of_cell? w _ qk)).trans qk
              replace qb := (HB.out.cell (World.block_lt_of_cell? w _ qb)).trans qb
              replace p374 := eq_true p374
              replace q374 := eq_true q374
              refine start_ (n := 30) (S := fun w' => w'.cell? ⟨gb366, 0, none⟩ = some (.slice (some ad369) l0_0.length c0_0) ∧ w'.cell? ⟨gb366, 1, none⟩ = some (.slice A0_1 l0_1.length c0_1) ∧ w'.cell? (ad369.add ((x3_1).toNat * 2)) = some (.string ((rd_T32 l0_0 x3_1).f0)) ∧ w'.cell? ⟨(ad369.add ((x3_1).toNat * 2)).block, (ad369.add ((x3_1).toNat * 2)).off + 1, none⟩ = some (.slice (some ad371) ((rd_T32 l0_0 x3_1).f1).length c370_1) ∧ w'.cell? (ad371.add ((x4_2).toNat * 6)) = some (.string ((rd_T36 ((rd_T32 l0_0 x3_1).f1) x4_2).f0)) ∧ w'.cell? ⟨(ad371.add ((x4_2).toNat * 6)).block, (ad371.add ((x4_2).toNat * 6)).off + 1, none⟩ = some (.int .i64 ((rd_T36 ((rd_T32 l0_0 x3_1).f1) x4_2).f1)) ∧ w'.cell? ⟨(ad371.add ((x4_2).toNat * 6)).block, (ad371.add ((x4_2).toNat * 6)).off + 2, none⟩ = some (.string ((rd_T36 ((rd_T32 l0_0 x3_1).f1) x4_2).f2.f0)) ∧ w'.cell? ⟨(ad371.add ((x4_2).toNat * 6)).block, (ad371.add ((x4_2).toNat * 6)).off + 3, none⟩ = some (.bool ((rd_T36 ((rd_T32 l0_0 x3_1).f1) x4_2).f2.f1)) ∧ w'.cell? ⟨(ad371.add ((x4_2).toNat * 6)).block, (ad371.add ((x4_2).toNat * 6)).off + 4, none⟩ = some (.bool ((rd_T36 ((rd_T32 l0_0 x3_1).f1) x4_2).f3)) ∧ w'.cell? ⟨(ad371.add ((x4_2).toNat * 6)).block, (ad371.add ((x4_2).toNat * 6)).off + 5, none⟩ = some (.int .i64 ((rd_T36 ((rd_T32 l0_0 x3_1).f1) x4_2).f4)) ∧ w'.cell? (ad369.add ((x3_1).toNat * 2)) = some (.string ((rd_T32 l0_0 x3_1).f0)) ∧ w'.cell? ⟨(ad369.add ((x3_1).toNat * 2)).block, (ad369.add ((x3_1).toNat * 2)).off + 1, none⟩ = some (.slice (some ad374) ((rd_T32 l0_0 x3_1).f1).length c373_1) ∧ w'.cell? (ad374.add ((x4_2).toNat * 6)) = some (.string ((rd_T36 ((rd_T32 l0_0 x3_1).f1) x4_2).f0)) ∧ w'.cell? ⟨(ad374.add ((x4_2).toNat * 6)).block, (ad374.add ((x4_2).toNat * 6)).off + 1, none⟩ = some (.int .i64 ((rd_T36 ((rd_T32 l0_0 x3_1).f1) x4_2).f1)) ∧ w'.cell? ⟨(ad374.add ((x4_2).toNat * 6)).block, (ad374.add ((x4_2).toNat * 6)).off + 2, none⟩ = some (.string ((rd_T36 ((rd_T32 l0_0 x3_1).f1) x4_2).f2.f0)) ∧ w'.cell? ⟨(ad374.add ((x4_2).toNat * 6)).block, (ad374.add ((x4_2).toNat * 6)).off + 3, none⟩ = some (.bool ((rd_T36 ((rd_T32 l0_0 x3_1).f1) x4_2).f2.f1)) ∧ w'.cell? ⟨(ad374.add ((x4_2).toNat * 6)).block, (ad374.add ((x4_2).toNat * 6)).off + 4, none⟩ = some (.bool ((rd_T36 ((rd_T32 l0_0 x3_1).f1) x4_2).f3)) ∧ w'.cell? ⟨(ad374.add ((x4_2).toNat * 6)).block, (ad374.add ((x4_2).toNat * 6)).off + 5, none⟩ = some (.int .i64 ((rd_T36 ((rd_T32 l0_0 x3_1).f1) x4_2).f4))) (ds := []) #[false, false, false, false, false, false, false, false, false, false, false, false, false, false, false, false, false, false, false, false, false, false, false, false, false, false, false, false, false, false] (by kernel_rfl) rfl rfl ⟨(blk_cell qj1.out 0).trans rfl, (blk_cell qj1.out 1).trans rfl, ((HB.out.cell (World.block_lt_of_cell? w _ hw370_0)).trans hw370_0), ((HB.out.cell (World.block_lt_of_cell? w _ hw370_1)).trans hw370_1), ((HB.out.cell (World.block_lt_of_cell? w _ hw371_0)).trans hw371_0), ((HB.out.cell (World.block_lt_of_cell? w _ hw371_1)).trans hw371_1), ((HB.out.cell (World.block_lt_of_cell? w _ hw371_2)).trans hw371_2), ((HB.out.cell (World.block_lt_of_cell? w _ hw371_3)).trans hw371_3), ((HB.out.cell (World.block_lt_of_cell? w _ hw371_4)).trans hw371_4), ((HB.out.cell (World.block_lt_of_cell? w _ hw371_5)).trans hw371_5), ((HB.out.cell (World.block_lt_of_cell? w _ hw373_0)).trans hw373_0), ((HB.out.cell (World.block_lt_of_cell? w _ hw373_1)).trans hw373_1), ((HB.out.cell (World.block_lt_of_cell? w _ hw374_0)).trans hw374_0), ((HB.out.cell (World.block_lt_of_cell? w _ hw374_1)).trans hw374_1), ((HB.out.cell (World.block_lt_of_cell? w _ hw374_2)).trans hw374_2), ((HB.out.cell (World.block_lt_of_cell? w _ hw374_3)).trans hw374_3), ((HB.out.cell (World.block_lt_of_cell? w _ hw374_4)).trans hw374_4), ((HB.out.cell (World.block_lt_of_cell? w _ hw374_5)).trans hw374_5)⟩ (fun hHeld => ?_); refine with_tabW spec_IdlCheck.tab11 spec_IdlCheck.bits11 (fun HT_ HW_ => ?_)
              generalize wr.drew = w30 at qj1 HB HR370_1 HR373_1 qw qa1 qe qs qn qj qm qd1 qf1 qc qz ql qt qg qk qb hHeld ⊢
              refine pure_ (i := 1) (N := some 33) (v := ?_) (a' := ?_) #[false, true, false, false, false, false, false, false, false, false, false, false, false, false, false, false, false, false, false, false, false, false, false, false, false, false, false, false, false, false] rfl rfl (any_of HT_.out (by kernel_rfl)) (fun _ _ _ h => h) (Or.inl ⟨by rfl, ?_⟩) ?_ ?_
              rotate_left
              ·intro w'
               go_simp
               with_reducible rfl
              rotate_left
              ·simp only [Act.put, List.setIfInBounds_toArray, List.set_cons_zero, List.set_cons_succ, i64_w, i32_w]
               rfl
              refine pure_ (i := 3) (N := some 35) (v := ?_) (a' := ?_) #[false, true, false, true, false, false, false, false, false, false, false, false, false, false, false, false, false, false, false, false, false, false, false, false, false, false, false, false, false, false] rfl rfl (any_of HT_.out (by kernel_rfl)) (fun _ _ _ h => h) (Or.inl ⟨by rfl, ?_⟩) ?_ ?_
              rotate_left
              ·intro w'
               go_simp
               with_reducible rfl
              rotate_left
              ·simp only [Act.put, List.setIfInBounds_toArray, List.set_cons_zero, List.set_cons_succ, i64_w, i32_w]
               rfl
              refine pure_ (i := 7) (N := some 39) (v := ?_) (a' := ?_) #[false, true, false, true, false, false, false, true, false, false, false, false, false, false, false, false, false, false, false, false, false, false, false, false, false, false, false, false, false, false] rfl rfl (any_of HT_.out (by kernel_rfl)) (fun _ _ _ h => h) (Or.inl ⟨by rfl, ?_⟩) ?_ ?_
              rotate_left
              ·intro w'
               go_simp
               with_reducible rfl
              rotate_left
              ·simp only [Act.put, List.setIfInBounds_toArray, List.set_cons_zero, List.set_cons_succ, i64_w, i32_w]
               rfl
              refine take_ (i := 0) (N := some 32) (v := ?_) (a' := ?_) #[true, true, false, true, false, false, false, true, false, false, false, false, false, false, false, false, false, false, false, false, false, false, false, false, false, false, false, false, false, false] rfl rfl (take_ofW HT_.out HW_.out (by kernel_rfl)) (fun _ _ _ h => h) (Or.inl ⟨by rfl, ?_⟩) hHeld ?_ ?_
              rotate_left
              ·rintro w' ⟨s0, s1, s2, s3, s4, s5, s6, s7, s8, s9, s10, s11, s12, s13, s14, s15, s16, s17⟩
               go_simp
               with_reducible rfl
              rotate_left
              ·simp only [Act.put, List.setIfInBounds_toArray, List.set_cons_zero, List.set_cons_succ, i64_w, i32_w]
               rfl
              refine take_ (i := 2) (N := some 34) (v := ?_) (a' := ?_) #[true, true, true, true, false, false, false, true, false, false, false, false, false, false, false, false, false, false, false, false, false, false, false, false, false, false, false, false, false, false] rfl rfl (take_ofW HT_.out HW_.out (by kernel_rfl)) (fun _ _ _ h => h) (Or.inl ⟨by rfl, ?_⟩) hHeld ?_ ?_
              rotate_left
              ·rintro w' ⟨s0, s1, s2, s3, s4, s5, s6, s7, s8, s9, s10, s11, s12, s13, s14, s15, s16, s17⟩
               go_simp
               with_reducible rfl
              rotate_left
              ·simp only [Act.put, List.setIfInBounds_toArray, List.set_cons_zero, List.set_cons_succ, i64_w, i32_w]
               rfl
              refine pure_ (i := 4) (N := some 36) (v := ?_) (a' := ?_) #[true, true, true, true, true, false, false, true, false, false, false, false, false, false, false, false, false, false, false, false, false, false, false, false, false, false, false, false, false, false] rfl rfl (any_of HT_.out (by kernel_rfl)) (fun _ _ _ h => h) (Or.inl ⟨by rfl, ?_⟩) ?_ ?_
              rotate_left
              ·intro w'
               go_simp
               with_reducible rfl
              rotate_left
              ·simp only [Act.put, List.setIfInBounds_toArray, List.set_cons_zero, List.set_cons_succ, i64_w, i32_w]
               rfl
              refine pure_ (i := 5) (N := some 37) (v := ?_) (a' := ?_) #[true, true, true, true, true, true, false, true, false, false, false, false, false, false, false, false, false, false, false, false, false, false, false, false, false, false, false, false, false, false] rfl rfl (any_of HT_.out (by kernel_rfl)) (fun _ _ _ h => h) (Or.inl ⟨by rfl, ?_⟩) ?_ ?_
              rotate_left
              ·intro w'
               go_simp
               with_reducible rfl
              rotate_left
              ·simp only [Act.put, List.setIfInBounds_toArray, List.set_cons_zero, List.set_cons_succ, i64_w, i32_w]
               rfl
              refine take_ (i := 6) (N := some 38) (v := ?_) (a' := ?_) #[true, true, true, true, true, true, true, true, false, false, false, false, false, false, false, false, false, false, false, false, false, false, false, false, false, false, false, false, false, false] rfl rfl (take_ofW HT_.out HW_.out (by kernel_rfl)) (fun _ _ _ h => h) (Or.inl ⟨by rfl, ?_⟩) hHeld ?_ ?_
              rotate_left
              ·rintro w' ⟨s0, s1, s2, s3, s4, s5, s6, s7, s8, s9, s10, s11, s12, s13, s14, s15, s16, s17⟩
               go_simp
               with_reducible rfl
              rotate_left
              ·simp only [Act.put, List.setIfInBounds_toArray, List.set_cons_zero, List.set_cons_succ, i64_w, i32_w]
               rfl
              refine pure_ (i := 8) (N := some 40) (v := ?_) (a' := ?_) #[true, true, true, true, true, true, true, true, true, false, false, false, false, false, false, false, false, false, false, false, false, false, false, false, false, false, false, false, false, false] rfl rfl (any_of HT_.out (by kernel_rfl)) (fun _ _ _ h => h) (Or.inl ⟨by rfl, ?_⟩) ?_ ?_
              rotate_left
              ·intro w'
               go_simp
               with_reducible rfl
              rotate_left
              ·simp only [Act.put, List.setIfInBounds_toArray, List.set_cons_zero, List.set_cons_succ, i64_w, i32_w]
               rfl
              refine pure_ (i := 9) (N := some 41) (v := ?_) (a' := ?_) #[true, true, true, true, true, true, true, true, true, true, false, false, false, false, false, false, false, false, false, false, false, false, false, false, false, false, false, false, false, false] rfl rfl (any_of HT_.out (by kernel_rfl)) (fun _ _ _ h => h) (Or.inl ⟨by rfl, ?_⟩) ?_ ?_
              rotate_left
              ·intro w'
               go_simp
               with_reducible rfl
              rotate_left
              ·simp only [Act.put, List.setIfInBounds_toArray, List.set_cons_zero, List.set_cons_succ, i64_w, i32_w]
               rfl
              refine take_ (i := 10) (N := some 42) (v := ?_) (a' := ?_) #[true, true, true, true, true, true, true, true, true, true, true, false, false, false, false, false, false, false, false, false, false, false, false, false, false, false, false, false, false, false] rfl rfl (take_ofW HT_.out HW_.out (by kernel_rfl)) (fun _ _ _ h => h) (Or.inl ⟨by rfl, ?_⟩) hHeld ?_ ?_
              rotate_left
              ·rintro w' ⟨s0, s1, s2, s3, s4, s5, s6, s7, s8, s9, s10, s11, s12, s13, s14, s15, s16, s17⟩
               go_simp
               with_reducible rfl
              rotate_left
              ·simp only [Act.put, List.setIfInBounds_toArray, List.set_cons_zero, List.set_cons_succ, i64_w, i32_w]
               rfl
              refine one_ (i := 11) (N := some 43) #[true, true, true, true, true, true, true, true, true, true, true, true, false, false, false, false, false, false, false, false, false, false, false, false, false, false, false, false, false, false] rfl rfl (one_of HT_.out (by kernel_rfl)) (by decide) (fun K hK => ?_)
              refine goes_ Tryd.func22 (by kernel_rfl) rfl #[.agg #[.slice (some ad369) l0_0.length c0_0, .slice A0_1 l0_1.length c0_1], .agg #[.string ((rd_T36 ((rd_T32 l0_0 x3_1).f1) x4_2).f2.f0), .bool ((rd_T36 ((rd_T32 l0_0 x3_1).f1) x4_2).f2.f1)]] (by rfl) rfl rfl (by (try simp only [List.map_toArray, List.map_cons, List.map_nil]); first | done | rfl | (simp only [List.length_drop, List.length_take]; rfl)) ?_
              with_reducible refine (spec_l9Of.calls k2 _ _ l0_0 _ _ l0_1 ((rd_T36 ((rd_T32 l0_0 x3_1).f1) x4_2).f2.f0) ((rd_T36 ((rd_T32 l0_0 x3_1).f1) x4_2).f2.f1) t372 _ ?side1 ?side2 ?side3 ?side4 A22.out).mono ?_
              (case side1 => repeat (first | exact (Kd.C_below HR0_0.out HB.out) | (with_reducible refine Kd.C_alloc ?_ _) | (with_reducible refine Kd.C_drewN ?_ _) | (with_reducible refine Kd.C_drew ?_)))
              (case side2 => exact HC0_0.out)
              (case side3 => repeat (first | exact (Kd.C_below HR0_1.out HB.out) | (with_reducible refine Kd.C_alloc ?_ _) | (with_reducible refine Kd.C_drewN ?_ _) | (with_reducible refine Kd.C_drew ?_)))
              (case side4 => exact HC0_1.out)
              rintro e w31 ⟨rfl, hb⟩
              refine ⟨_, rfl, ?_⟩
              have n0_ := Aside0.mk (blk_below (g := gb366) (o := .cells #[.slice (some ad369) l0_0.length c0_0, .slice A0_1 l0_1.length c0_1] 26 (0, 0)) (by (with_reducible repeat (first | refine blk_drewN ?_ _ | refine blk_drew ?_ | refine blk_alloc ?_ _)); exact qj1.out) hb)
              have n1_ := Aside0.mk (below_step (by repeat (first | (with_reducible first | exact HB.out | apply below_alloc | apply pw_below_drewN | apply below_drew1 | refine below_set ?_ qi1.out) | exact HB.out)) hb)
              clear qj1
              clear HB
              have qj1 := n0_
              have HB := n1_
              clear n0_ n1_
              (try clear hb)
              (try clear hb2)
              (try clear hk)
              (try clear hi)
              refine hK.out _ _ ⟨(blk_cell qj1.out 0).trans rfl, (blk_cell qj1.out 1).trans rfl, ((HB.out.cell (World.block_lt_of_cell? w _ hw370_0)).trans hw370_0), ((HB.out.cell (World.block_lt_of_cell? w _ hw370_1)).trans hw370_1), ((HB.out.cell (World.block_lt_of_cell? w _ hw371_0)).trans hw371_0), ((HB.out.cell (World.block_lt_of_cell? w _ hw371_1)).trans hw371_1), ((HB.out.cell (World.block_lt_of_cell? w _ hw371_2)).trans hw371_2), ((HB.out.cell (World.block_lt_of_cell? w _ hw371_3)).trans hw371_3), ((HB.out.cell (World.block_lt_of_cell? w _ hw371_4)).trans hw371_4), ((HB.out.cell (World.block_lt_of_cell? w _ hw371_5)).trans hw371_5), ((HB.out.cell (World.block_lt_of_cell? w _ hw373_0)).trans hw373_0), ((HB.out.cell (World.block_lt_of_cell? w _ hw373_1)).trans hw373_1), ((HB.out.cell (World.block_lt_of_cell? w _ hw374_0)).trans hw374_0), ((HB.out.cell (World.block_lt_of_cell? w _ hw374_1)).trans hw374_1), ((HB.out.cell (World.block_lt_of_cell? w _ hw374_2)).trans hw374_2), ((HB.out.cell (World.block_lt_of_cell? w _ hw374_3)).trans hw374_3), ((HB.out.cell (World.block_lt_of_cell? w _ hw374_4)).trans hw374_4), ((HB.out.cell (World.block_lt_of_cell? w _ hw374_5)).trans hw374_5)⟩ (fun hHeld => ?_)
              clear hK K
              refine norm_ (a' := ?_) ?_ ?_
              rotate_left
              ·show Act.put _ (some 43) _ = _
               simp only [Act.put, List.setIfInBounds_toArray, List.set_cons_zero, List.set_cons_succ, i64_w, i32_w]
               rfl
              refine pure_ (i := 12) (N := some 44) (v := ?_) (a' := ?_) #[true, true, true, true, true, true, true, true, true, true, true, true, true, false, false, false, false, false, false, false, false, false, false, false, false, false, false, false, false, false] rfl rfl (any_of HT_.out (by kernel_rfl)) (fun _ _ _ h => h) (Or.inl ⟨by rfl, ?_⟩) ?_ ?_
              rotate_left
              ·intro w'
               go_simp
               with_reducible rfl
              rotate_left
              ·simp only [Act.put, List.setIfInBounds_toArray, List.set_cons_zero, List.set_cons_succ, i64_w, i32_w]
               rfl
              refine pure_ (i := 13) (N := some 45) (v := ?_) (a' := ?_) #[true, true, true, true, true, true, true, true, true, true, true, true, true, true, false, false, false, false, false, false, false, false, false, false, false, false, false, false, false, false] rfl rfl (any_of HT_.out (by kernel_rfl)) (fun _ _ _ h => h) (Or.inl ⟨by rfl, ?_⟩) ?_ ?_
              rotate_left
              ·intro w'
               go_simp
               with_reducible rfl
              rotate_left
              ·simp only [Act.put, List.setIfInBounds_toArray, List.set_cons_zero, List.set_cons_succ, i64_w, i32_w]
               rfl
              refine pure_ (i := 15) (N := some 47) (v := ?_) (a' := ?_) #[true, true, true, true, true, true, true, true, true, true, true, true, true, true, false, true, false, false, false, false, false, false, false, false, false, false, false, false, false, false] rfl rfl (any_of HT_.out (by kernel_rfl)) (fun _ _ _ h => h) (Or.inl ⟨by rfl, ?_⟩) ?_ ?_
              rotate_left
              ·intro w'
               go_simp
               with_reducible rfl
              rotate_left
              ·simp only [Act.put, List.setIfInBounds_toArray, List.set_cons_zero, List.set_cons_succ, i64_w, i32_w]
               rfl
              refine pure_ (i := 17) (N := some 49) (v := ?_) (a' := ?_) #[true, true, true, true, true, true, true, true, true, true, true, true, true, true, false, true, false, true, false, false, false, false, false, false, false, false, false, false, false, false] rfl rfl (any_of HT_.out (by kernel_rfl)) (fun _ _ _ h => h) (Or.inl ⟨by rfl, ?_⟩) ?_ ?_
              rotate_left
              ·intro w'
               go_simp
               with_reducible rfl
              rotate_left
              ·simp only [Act.put, List.setIfInBounds_toArray, List.set_cons_zero, List.set_cons_succ, i64_w, i32_w]
               rfl
              refine pure_ (i := 21) (N := some 53) (v := ?_) (a' := ?_) #[true, true, true, true, true, true, true, true, true, true, true, true, true, true, false, true, false, true, false, false, false, true, false, false, false, false, false, false, false, false] rfl rfl (any_of HT_.out (by kernel_rfl)) (fun _ _ _ h => h) (Or.inl ⟨by rfl, ?_⟩) ?_ ?_
              rotate_left
              ·intro w'
               go_simp
               with_reducible rfl
              rotate_left
              ·simp only [Act.put, List.setIfInBounds_toArray, List.set_cons_zero, List.set_cons_succ, i64_w, i32_w]
               rfl
              refine take_ (i := 14) (N := some 46) (v := ?_) (a' := ?_) #[true, true, true, true, true, true, true, true, true, true, true, true, true, true, true, true, false, true, false, false, false, true, false, false, false, false, false, false, false, false] rfl rfl (take_ofW HT_.out HW_.out (by kernel_rfl)) (fun _ _ _ h => h) (Or.inl ⟨by rfl, ?_⟩) hHeld ?_ ?_
              rotate_left
              ·rintro w' ⟨s0, s1, s2, s3, s4, s5, s6, s7, s8, s9, s10, s11, s12, s13, s14, s15, s16, s17⟩
               go_simp
               with_reducible rfl
              rotate_left
              ·simp only [Act.put, List.setIfInBounds_toArray, List.set_cons_zero, List.set_cons_succ, i64_w, i32_w]
               rfl
              refine take_ (i := 16) (N := some 48) (v := ?_) (a' := ?_) #[true, true, true, true, true, true, true, true, true, true, true, true, true, true, true, true, true, true, false, false, false, true, false, false, false, false, false, false, false, false] rfl rfl (take_ofW HT_.out HW_.out (by kernel_rfl)) (fun _ _ _ h => h) (Or.inl ⟨by rfl, ?_⟩) hHeld ?_ ?_
              rotate_left
              ·rintro w' ⟨s0, s1, s2, s3, s4, s5, s6, s7, s8, s9, s10, s11, s12, s13, s14, s15, s16, s17⟩
               go_simp
               with_reducible rfl
              rotate_left
              ·simp only [Act.put, List.setIfInBounds_toArray, List.set_cons_zero, List.set_cons_succ, i64_w, i32_w]
               rfl
              refine pure_ (i := 18) (N := some 50) (v := ?_) (a' := ?_) #[true, true, true, true, true, true, true, true, true, true, true, true, true, true, true, true, true, true, true, false, false, true, false, false, false, false, false, false, false, false] rfl rfl (any_of HT_.out (by kernel_rfl)) (fun _ _ _ h => h) (Or.inl ⟨by rfl, ?_⟩) ?_ ?_
              rotate_left
              ·intro w'
               go_simp
               with_reducible rfl
              rotate_left
              ·simp only [Act.put, List.setIfInBounds_toArray, List.set_cons_zero, List.set_cons_succ, i64_w, i32_w]
               rfl
              refine pure_ (i := 19) (N := some 51) (v := ?_) (a' := ?_) #[true, true, true, true, true, true, true, true, true, true, true, true, true, true, true, true, true, true, true, true, false, true, false, false, false, false, false, false, false, false] rfl rfl (any_of HT_.out (by kernel_rfl)) (fun _ _ _ h => h) (Or.inl ⟨by rfl, ?_⟩) ?_ ?_
              rotate_left
              ·intro w'
               go_simp
               with_reducible rfl
              rotate_left
              ·simp only [Act.put, List.setIfInBounds_toArray, List.set_cons_zero, List.set_cons_succ, i64_w, i32_w]
               rfl
              refine take_ (i := 20) (N := some 52) (v := ?_) (a' := ?_) #[true, true, true, true, true, true, true, true, true, true, true, true, true, true, true, true, true, true, true, true, true, true, false, false, false, false, false, false, false, false] rfl rfl (take_ofW HT_.out HW_.out (by kernel_rfl)) (fun _ _ _ h => h) (Or.inl ⟨by rfl, ?_⟩) hHeld ?_ ?_
              rotate_left
              ·rintro w' ⟨s0, s1, s2, s3, s4, s5, s6, s7, s8, s9, s10, s11, s12, s13, s14, s15, s16, s17⟩
               go_simp
               with_reducible rfl
              rotate_left
              ·simp only [Act.put, List.setIfInBounds_toArray, List.set_cons_zero, List.set_cons_succ, i64_w, i32_w]
               rfl
              refine pure_ (i := 22) (N := some 54) (v := ?_) (a' := ?_) #[true, true, true, true, true, true, true, true, true, true, true, true, true, true, true, true, true, true, true, true, true, true, true, false, false, false, false, false, false, false] rfl rfl (any_of HT_.out (by kernel_rfl)) (fun _ _ _ h => h) (Or.inl ⟨by rfl, ?_⟩) ?_ ?_
              rotate_left
              ·intro w'
               go_simp
               with_reducible rfl
              rotate_left
              ·simp only [Act.put, List.setIfInBounds_toArray, List.set_cons_zero, List.set_cons_succ, i64_w, i32_w]
               rfl
              refine pure_ (i := 23) (N := some 55) (v := ?_) (a' := ?_) #[true, true, true, true, true, true, true, true, true, true, true, true, true, true, true, true, true, true, true, true, true, true, true, true, false, false, false, false, false, false] rfl rfl (any_of HT_.out (by kernel_rfl)) (fun _ _ _ h => h) (Or.inl ⟨by rfl, ?_⟩) ?_ ?_
              rotate_left
              ·intro w'
               go_simp
               with_reducible rfl
              rotate_left
              ·simp only [Act.put, List.setIfInBounds_toArray, List.set_cons_zero, List.set_cons_succ, i64_w, i32_w]
               rfl
              refine pure_ (i := 24) (N := some 56) (v := ?_) (a' := ?_) #[true, true, true, true, true, true, true, true, true, true, true, true, true, true, true, true, true, true, true, true, true, true, true, true, true, false, false, false, false, false] rfl rfl (any_of HT_.out (by kernel_rfl)) (fun _ _ _ h => h) (Or.inl ⟨by rfl, ?_⟩) ?_ ?_
              rotate_left
              ·intro w'
               go_simp
               with_reducible rfl
              rotate_left
              ·simp only [Act.put, List.setIfInBounds_toArray, List.set_cons_zero, List.set_cons_succ, i64_w, i32_w]
               rfl
              refine take_ (i := 25) (N := some 57) (v := ?_) (a' := ?_) #[true, true, true, true, true, true, true, true, true, true, true, true, true, true, true, true, true, true, true, true, true, true, true, true, true, true, false, false, false, false] rfl rfl (take_ofW HT_.out HW_.out (by kernel_rfl)) (fun _ _ _ h => h) (Or.inl ⟨by rfl, ?_⟩) hHeld ?_ ?_
              rotate_left
              ·rintro w' ⟨s0, s1, s2, s3, s4, s5, s6, s7, s8, s9, s10, s11, s12, s13, s14, s15, s16, s17⟩
               go_simp
               with_reducible rfl
              rotate_left
              ·simp only [Act.put, List.setIfInBounds_toArray, List.set_cons_zero, List.set_cons_succ, i64_w, i32_w]
               rfl
              refine pure_ (i := 26) (N := some 58) (v := ?_) (a' := ?_) #[true, true, true, true, true, true, true, true, true, true, true, true, true, true, true, true, true, true, true, true, true, true, true, true, true, true, true, false, false, false] rfl rfl (any_of HT_.out (by kernel_rfl)) (fun _ _ _ h => h) (Or.inl ⟨by rfl, ?_⟩) ?_ ?_
              rotate_left
              ·intro w'
               go_simp
               with_reducible rfl
              rotate_left
              ·simp only [Act.put, List.setIfInBounds_toArray, List.set_cons_zero, List.set_cons_succ, i64_w, i32_w]
               rfl
              refine one_ (i := 27) (N := some 59) #[true, true, true, true, true, true, true, true, true, true, true, true, true, true, true, true, true, true, true, true, true, true, true, true, true, true, true, true, false, false] rfl rfl (one_of HT_.out (by kernel_rfl)) (by decide) (fun K hK => ?_)
              refine goes_ Tryd.func22 (by kernel_rfl) rfl #[.agg #[.slice (some ad369) l0_0.length c0_0, .slice A0_1 l0_1.length c0_1], .agg #[.string ((rd_T36 ((rd_T32 l0_0 x3_1).f1) x4_2).f2.f0), .bool false]] (by rfl) rfl rfl (by (try simp only [List.map_toArray, List.map_cons, List.map_nil]); first | done | rfl | (simp only [List.length_drop, List.length_take]; rfl)) ?_
              with_reducible refine (spec_l9Of.calls k2 _ _ l0_0 _ _ l0_1 ((rd_T36 ((rd_T32 l0_0 x3_1).f1) x4_2).f2.f0) false t375 _ ?side1 ?side2 ?side3 ?side4 A27.out).mono ?_
              (case side1 => repeat (first | exact (Kd.C_below HR0_0.out HB.out) | (with_reducible refine Kd.C_alloc ?_ _) | (with_reducible refine Kd.C_drewN ?_ _) | (with_reducible refine Kd.C_drew ?_)))
              (case side2 => exact HC0_0.out)
              (case side3 => repeat (first | exact (Kd.C_below HR0_1.out HB.out) | (with_reducible refine Kd.C_alloc ?_ _) | (with_reducible refine Kd.C_drewN ?_ _) | (with_reducible refine Kd.C_drew ?_)))
              (case side4 => exact HC0_1.out)
              rintro e w32 ⟨rfl, hb⟩
              refine ⟨_, rfl, ?_⟩
              have n0_ := Aside0.mk (blk_below (g := gb366) (o := .cells #[.slice (some ad369) l0_0.length c0_0, .slice A0_1 l0_1.length c0_1] 26 (0, 0)) (by (with_reducible repeat (first | refine blk_drewN ?_ _ | refine blk_drew ?_ | refine blk_alloc ?_ _)); exact qj1.out) hb)
              have n1_ := Aside0.mk (below_step (by repeat (first | (with_reducible first | exact HB.out | apply below_alloc | apply pw_below_drewN | apply below_drew1 | refine below_set ?_ qi1.out) | exact HB.out)) hb)
              clear qj1
              clear HB
              have qj1 := n0_
              have HB := n1_
              clear n0_ n1_
              (try clear hb)
              (try clear hb2)
              (try clear hk)
              (try clear hi)
              refine hK.out _ _ ⟨(blk_cell qj1.out 0).trans rfl, (blk_cell qj1.out 1).trans rfl, ((HB.out.cell (World.block_lt_of_cell? w _ hw370_0)).trans hw370_0), ((HB.out.cell (World.block_lt_of_cell? w _ hw370_1)).trans hw370_1), ((HB.out.cell (World.block_lt_of_cell? w _ hw371_0)).trans hw371_0), ((HB.out.cell (World.block_lt_of_cell? w _ hw371_1)).trans hw371_1), ((HB.out.cell (World.block_lt_of_cell? w _ hw371_2)).trans hw371_2), ((HB.out.cell (World.block_lt_of_cell? w _ hw371_3)).trans hw371_3), ((HB.out.cell (World.block_lt_of_cell? w _ hw371_4)).trans hw371_4), ((HB.out.cell (World.block_lt_of_cell? w _ hw371_5)).trans hw371_5), ((HB.out.cell (World.block_lt_of_cell? w _ hw373_0)).trans hw373_0), ((HB.out.cell (World.block_lt_of_cell? w _ hw373_1)).trans hw373_1), ((HB.out.cell (World.block_lt_of_cell? w _ hw374_0)).trans hw374_0), ((HB.out.cell (World.block_lt_of_cell? w _ hw374_1)).trans hw374_1), ((HB.out.cell (World.block_lt_of_cell? w _ hw374_2)).trans hw374_2), ((HB.out.cell (World.block_lt_of_cell? w _ hw374_3)).trans hw374_3), ((HB.out.cell (World.block_lt_of_cell? w _ hw374_4)).trans hw374_4), ((HB.out.cell (World.block_lt_of_cell? w _ hw374_5)).trans hw374_5)⟩ (fun hHeld => ?_)
              clear hK K
              refine norm_ (a' := ?_) ?_ ?_
              rotate_left
              ·show Act.put _ (some 59) _ = _
               simp only [Act.put, List.setIfInBounds_toArray, List.set_cons_zero, List.set_cons_succ, i64_w, i32_w]
               rfl
              refine pure_ (i := 28) (N := some 60) (v := ?_) (a' := ?_) #[true, true, true, true, true, true, true, true, true, true, true, true, true, true, true, true, true, true, true, true, true, true, true, true, true, true, true, true, true, false] rfl rfl (any_of HT_.out (by kernel_rfl)) (fun _ _ _ h => h) (Or.inl ⟨by rfl, ?_⟩) ?_ ?_
              rotate_left
              ·intro w'
               go_simp
               with_reducible rfl
              rotate_left
              ·simp only [Act.put, List.setIfInBounds_toArray, List.set_cons_zero, List.set_cons_succ, i64_w, i32_w]
               rfl
              refine pure_ (i := 29) (N := some 61) (v := ?_) (a' := ?_) #[true, true, true, true, true, true, true, true, true, true, true, true, true, true, true, true, true, true, true, true, true, true, true, true, true, true, true, true, true, true] rfl rfl (any_of HT_.out (by kernel_rfl)) (fun _ _ _ h => h) (Or.inl ⟨by rfl, ?_⟩) ?_ ?_
              rotate_left
              ·intro w'
               go_simp
               with_reducible rfl
              rotate_left
              ·simp only [Act.put, List.setIfInBounds_toArray, List.set_cons_zero, List.set_cons_succ, i64_w, i32_w]
               rfl
              refine done_ (done_of HT_.out (by kernel_rfl)) ?_
              try go_wp2
              go_ret
              exact ⟨by first | rfl | (simp [errW_none, errW_some] <;> rfl) | (simp [*, errW_none, errW_some] <;> rfl) | (simp only [Bool.and_eq_true, beq_iff_eq, Bool.not_eq_true', Bool.not_eq_eq_eq_not, Bool.not_true, Bool.not_false] at *; simp [*]), by repeat (first | (with_reducible first | exact HB.out | apply below_alloc | apply pw_below_drewN | apply below_drew1 | refine below_set ?_ qi1.out) | exact HB.out)⟩
             ·rw [if_neg c28] at H
              have c28b0 : (t375 == 0) = false := beq_eq_false_iff_ne.mpr c28
              have c28b1 : (t375 != 0) = true := bne_iff_ne.mpr c28
              have H' := Aside0.mk H
              clear H
              have hcz33_0 : wr.cell? ⟨gb366, 0, none⟩ = some (.slice A0_0 l0_0.length c0_0) := (blk_cell qj1.out 0).trans rfl
              have hcz33_1 : wr.cell? ⟨gb366, 1, none⟩ = some (.slice A0_1 l0_1.length c0_1) := (blk_cell qj1.out 1).trans rfl
              have hfz33_0 := blk_frozen qj1.out 0
              have hfz33_1 := blk_frozen qj1.out 1
              have p369 : 0 ≤ (x3_1 : Int) := of_decide_eq_true (by first | (with_reducible assumption) | assumption)
              have q369 : x3_1 < (l0_0.length : Int) := of_decide_eq_true (by first | (with_reducible assumption) | assumption)
              obtain ⟨ad369, A369_1, c369_1, e369, qi, qb1, hl369_1, hi369_1⟩ := at_T32 HR0_0.out x3_1 p369 q369
              cases e369
              replace qi := (HB.out.cell (World.block_lt_of_cell? w _ qi)).trans qi
              replace qb1 := (HB.out.cell (World.block_lt_of_cell? w _ qb1)).trans qb1
              have HR369_1 := Aside0.mk hi369_1
              have HC369_1 := Aside0.mk hl369_1
              clear hi369_1 hl369_1
              replace p369 := eq_true p369
              replace q369 := eq_true q369
              try go_wp2
              have n0_ := Aside0.mk (blk_drew qj1.out)
              have n1_ := Aside0.mk (below_drew1 HB.out)
              clear qj1
              clear HB
              have qj1 := n0_
              have HB := n1_
              clear n0_ n1_
              have p370 : 0 ≤ (x3_1 : Int) := of_decide_eq_true (by first | (with_reducible assumption) | assumption)
              have q370 : x3_1 < (l0_0.length : Int) := of_decide_eq_true (by first | (with_reducible assumption) | assumption)
              obtain ⟨ad370, A370_1, c370_1, e370, qw, qa1, hl370_1, hi370_1⟩ := at_T32 HR0_0.out x3_1 p370 q370
              have hw370_1 := qa1
              have hw370_0 := qw
              obtain rfl : ad369 = ad370 := (by injection e370)
              replace qw := (HB.out.cell (World.block_lt_of_cell? w _ qw)).trans qw
              replace qa1 := (HB.out.cell (World.block_lt_of_cell? w _ qa1)).trans qa1
              have HR370_1 := Aside0.mk hi370_1
              have HC370_1 := Aside0.mk hl370_1
              clear hi370_1 hl370_1
              replace p370 := eq_true p370
              replace q370 := eq_true q370
              have p371 : 0 ≤ (x4_2 : Int) := of_decide_eq_true (by first | (with_reducible assumption) | assumption)
              have q371 : x4_2 < (((rd_T32 l0_0 x3_1).f1).length : Int) := of_decide_eq_true (by first | (with_reducible assumption) | assumption)
              obtain ⟨ad371, e371, qe, qs, qn, qj, qm, qd1⟩ := at_T36 HR370_1.out x4_2 p371 q371
              have hw371_5 := qd1
              have hw371_4 := qm
              have hw371_3 := qj
              have hw371_2 := qn
              have hw371_1 := qs
              have hw371_0 := qe
              cases e371
              replace qe := (HB.out.cell (World.block_lt_of_cell? w _ qe)).trans qe
              replace qs := (HB.out.cell (World.block_lt_of_cell? w _ qs)).trans qs
              replace qn := (HB.out.cell (World.block_lt_of_cell? w _ qn)).trans qn
              replace qj := (HB.out.cell (World.block_lt_of_cell? w _ qj)).trans qj
              replace qm := (HB.out.cell (World.block_lt_of_cell? w _ qm)).trans qm
              replace qd1 := (HB.out.cell (World.block_lt_of_cell? w _ qd1)).trans qd1
              replace p371 := eq_true p371
              replace q371 := eq_true q371
              have p373 : 0 ≤ (x3_1 : Int) := of_decide_eq_true (by first | (with_reducible assumption) | assumption)
              have q373 : x3_1 < (l0_0.length : Int) := of_decide_eq_true (by first | (with_reducible assumption) | assumption)
              obtain ⟨ad373, A373_1, c373_1, e373, qf1, qc, hl373_1, hi373_1⟩ := at_T32 HR0_0.out x3_1 p373 q373
              have hw373_1 := qc
              have hw373_0 := qf1
              obtain rfl : ad369 = ad373 := (by injection e373)
              replace qf1 := (HB.out.cell (World.block_lt_of_cell? w _ qf1)).trans qf1
              replace qc := (HB.out.cell (World.block_lt_of_cell? w _ qc)).trans qc
              have HR373_1 := Aside0.mk hi373_1
              have HC373_1 := Aside0.mk hl373_1
              clear hi373_1 hl373_1
              replace p373 := eq_true p373
              replace q373 := eq_true q373
              have p374 : 0 ≤ (x4_2 : Int) := of_decide_eq_true (by first | (with_reducible assumption) | assumption)
              have q374 : x4_2 < (((rd_T32 l0_0 x3_1).f1).length : Int) := of_decide_eq_true (by first | (with_reducible assumption) | assumption)
              obtain ⟨ad374, e374, qz, ql, qt, qg, qk, qb⟩ := at_T36 HR373_1.out x4_2 p374 q374
              have hw374_5 := qb
              have hw374_4 := qk
              have hw374_3 := qg
              have hw374_2 := qt
              have hw374_1 := ql
              have hw374_0 := qz
              cases e374
              replace qz := (HB.out.cell (World.block_lt_of_cell? w _ qz)).trans qz
              replace ql := (HB.out.cell (World.block_lt_of_cell? w _ ql)).trans ql
              replace qt := (HB.out.cell (World.block_lt_of_cell? w _ qt)).trans qt
              replace qg := (HB.out.cell (World.block_lt_of_cell? w _ qg)).trans qg
              replace qk := (HB.out.cell (World.block_lt_of_cell? w _ qk)).trans qk
              replace qb := (HB.out.cell (World.block_lt_of_cell? w _ qb)).trans qb
              replace p374 := eq_true p374
              replace q374 := eq_true q374
              refine start_ (n := 30) (S := fun w' => w'.cell? ⟨gb366, 0, none⟩ = some (.slice (some ad369) l0_0.length c0_0) ∧ w'.cell? ⟨gb366, 1, none⟩ = some (.slice A0_1 l0_1.length c0_1) ∧ w'.cell? (ad369.add ((x3_1).toNat * 2)) = some (.string ((rd_T32 l0_0 x3_1).f0)) ∧ w'.cell? ⟨(ad369.add ((x3_1).toNat * 2)).block, (ad369.add ((x3_1).toNat * 2)).off + 1, none⟩ = some (.slice (some ad371) ((rd_T32 l0_0 x3_1).f1).length c370_1) ∧ w'.cell? (ad371.add ((x4_2).toNat * 6)) = some (.string ((rd_T36 ((rd_T32 l0_0 x3_1).f1) x4_2).f0)) ∧ w'.cell? ⟨(ad371.add ((x4_2).toNat * 6)).block, (ad371.add ((x4_2).toNat * 6)).off + 1, none⟩ = some (.int .i64 ((rd_T36 ((rd_T32 l0_0 x3_1).f1) x4_2).f1)) ∧ w'.cell? ⟨(ad371.add ((x4_2).toNat * 6)).block, (ad371.add ((x4_2).toNat * 6)).off + 2, none⟩ = some (.string ((rd_T36 ((rd_T32 l0_0 x3_1).f1) x4_2).f2.f0)) ∧ w'.cell? ⟨(ad371.add ((x4_2).toNat * 6)).block, (ad371.add ((x4_2).toNat * 6)).off + 3, none⟩ = some (.bool ((rd_T36 ((rd_T32 l0_0 x3_1).f1) x4_2).f2.f1)) ∧ w'.cell? ⟨(ad371.add ((x4_2).toNat * 6)).block, (ad371.add ((x4_2).toNat * 6)).off + 4, none⟩ = some (.bool ((rd_T36 ((rd_T32 l0_0 x3_1).f1) x4_2).f3)) ∧ w'.cell? ⟨(ad371.add ((x4_2).toNat * 6)).block, (ad371.add ((x4_2).toNat * 6)).off + 5, none⟩ = some (.int .i64 ((rd_T36 ((rd_T32 l0_0 x3_1).f1) x4_2).f4)) ∧ w'.cell? (ad369.add ((x3_1).toNat * 2)) = some (.string ((rd_T32 l0_0 x3_1).f0)) ∧ w'.cell? ⟨(ad369.add ((x3_1).toNat * 2)).block, (ad369.add ((x3_1).toNat * 2)).off + 1, none⟩ = some (.slice (some ad374) ((rd_T32 l0_0 x3_1).f1).length c373_1) ∧ w'.cell? (ad374.add ((x4_2).toNat * 6)) = some (.string ((rd_T36 ((rd_T32 l0_0 x3_1).f1) x4_2).f0)) ∧ w'.cell? ⟨(ad374.add ((x4_2).toNat * 6)).block, (ad374.add ((x4_2).toNat * 6)).off + 1, none⟩ = some (.int .i64 ((rd_T36 ((rd_T32 l0_0 x3_1).f1) x4_2).f1)) ∧ w'.cell? ⟨(ad374.add ((x4_2).toNat * 6)).block, (ad374.add ((x4_2).toNat * 6)).off + 2, none⟩ = some (.string ((rd_T36 ((rd_T32 l0_0 x3_1).f1) x4_2).f2.f0)) ∧ w'.cell? ⟨(ad374.add ((x4_2).toNat * 6)).block, (ad374.add ((x4_2).toNat * 6)).off + 3, none⟩ = some (.bool ((rd_T36 ((rd_T32 l0_0 x3_1).f1) x4_2).f2.f1)) ∧ w'.cell? ⟨(ad374.add ((x4_2).toNat * 6)).block, (ad374.add ((x4_2).toNat * 6)).off + 4, none⟩ = some (.bool ((rd_T36 ((rd_T32 l0_0 x3_1).f1) x4_2).f3)) ∧ w'.cell? ⟨(ad374.add ((x4_2).toNat * 6)).block, (ad374.add ((x4_2).toNat * 6)).off + 5, none⟩ = some (.int .i64 ((rd_T36 ((rd_T32 l0_0 x3_1).f1) x4_2).f4))) (ds := []) #[false, false, false, false, false, false, false, false, false, false, false, false, false, false, false, false, false, false, false, false, false, false, false, false, false, false, false, false, false, false] (by kernel_rfl) rfl rfl ⟨(blk_cell qj1.out 0).trans rfl, (blk_cell qj1.out 1).trans rfl, ((HB.out.cell (World.block_lt_of_cell? w _ hw370_0)).trans hw370_0), ((HB.out.cell (World.block_lt_of_cell? w _ hw370_1)).trans hw370_1), ((HB.out.cell (World.block_lt_of_cell? w _ hw371_0)).trans hw371_0), ((HB.out.cell (World.block_lt_of_cell? w _ hw371_1)).trans hw371_1), ((HB.out.cell (World.block_lt_of_cell? w _ hw371_2)).trans hw371_2), ((HB.out.cell (World.block_lt_of_cell? w _ hw371_3)).trans hw371_3), ((HB.out.cell (World.block_lt_of_cell? w _ hw371_4)).trans hw371_4), ((HB.out.cell (World.block_lt_of_cell? w _ hw371_5)).trans hw371_5), ((HB.out.cell (World.block_lt_of_cell? w _ hw373_0)).trans hw373_0), ((HB.out.cell (World.block_lt_of_cell? w _ hw373_1)).trans hw373_1), ((HB.out.cell (World.block_lt_of_cell? w _ hw374_0)).trans hw374_0), ((HB.out.cell (World.block_lt_of_cell? w _ hw374_1)).trans hw374_1), ((HB.out.cell (World.block_lt_of_cell? w _ hw374_2)).trans hw374_2), ((HB.out.cell (World.block_lt_of_cell? w _ hw374_3)).trans hw374_3), ((HB.out.cell (World.block_lt_of_cell? w _ hw374_4)).trans hw374_4), ((HB.out.cell (World.block_lt_of_cell? w _ hw374_5)).trans hw374_5)⟩ (fun hHeld => ?_); refine with_tabW spec_IdlCheck.tab11 spec_IdlCheck.bits11 (fun HT_ HW_ => ?_)
              generalize wr.drew = w34 at qj1 HB HR370_1 HR373_1 qw qa1 qe qs qn qj qm qd1 qf1 qc qz ql qt qg qk qb hHeld ⊢
              refine pure_ (i := 1) (N := some 33) (v := ?_) (a' := ?_) #[false, true, false, false, false, false, false, false, false, false, false, false, false, false, false, false, false, false, false, false, false, false, false, false, false, false, false, false, false, false] rfl rfl (any_of HT_.out (by kernel_rfl)) (fun _ _ _ h => h) (Or.inl ⟨by rfl, ?_⟩) ?_ ?_
              rotate_left
              ·intro w'
               go_simp
               with_reducible rfl
              rotate_left
              ·simp only [Act.put, List.setIfInBounds_toArray, List.set_cons_zero, List.set_cons_succ, i64_w, i32_w]
               rfl
              refine pure_ (i := 3) (N := some 35) (v := ?_) (a' := ?_) #[false, true, false, true, false, false, false, false, false, false, false, false, false, false, false, false, false, false, false, false, false, false, false, false, false, false, false, false, false, false] rfl rfl (any_of HT_.out (by kernel_rfl)) (fun _ _ _ h => h) (Or.inl ⟨by rfl, ?_⟩) ?_ ?_
              rotate_left
              ·intro w'
               go_simp
               with_reducible rfl
              rotate_left
              ·simp only [Act.put, List.setIfInBounds_toArray, List.set_cons_zero, List.set_cons_succ, i64_w, i32_w]
               rfl
              refine pure_ (i := 7) (N := some 39) (v := ?_) (a' := ?_) #[false, true, false, true, false, false, false, true, false, false, false, false, false, false, false, false, false, false, false, false, false, false, false, false, false, false, false, false, false, false] rfl rfl (any_of HT_.out (by kernel_rfl)) (fun _ _ _ h => h) (Or.inl ⟨by rfl, ?_⟩) ?_ ?_
              rotate_left
              ·intro w'
               go_simp
               with_reducible rfl
              rotate_left
              ·simp only [Act.put, List.setIfInBounds_toArray, List.set_cons_zero, List.set_cons_succ, i64_w, i32_w]
               rfl
              refine take_ (i := 0) (N := some 32) (v := ?_) (a' := ?_) #[true, true, false, true, false, false, false, true, false, false, false, false, false, false, false, false, false, false, false, false, false, false, false, false, false, false, false, false, false, false] rfl rfl (take_ofW HT_.out HW_.out (by kernel_rfl)) (fun _ _ _ h => h) (Or.inl ⟨by rfl, ?_⟩) hHeld ?_ ?_
              rotate_left
              ·rintro w' ⟨s0, s1, s2, s3, s4, s5, s6, s7, s8, s9, s10, s11, s12, s13, s14, s15, s16, s17⟩
               go_simp
               with_reducible rfl
              rotate_left
              ·simp only [Act.put, List.setIfInBounds_toArray, List.set_cons_zero, List.set_cons_succ, i64_w, i32_w]
               rfl
              refine take_ (i := 2) (N := some 34) (v := ?_) (a' := ?_) #[true, true, true, true, false, false, false, true, false, false, false, false, false, false, false, false, false, false, false, false, false, false, false, false, false, false, false, false, false, false] rfl rfl (take_ofW HT_.out HW_.out (by kernel_rfl)) (fun _ _ _ h => h) (Or.inl ⟨by rfl, ?_⟩) hHeld ?_ ?_
              rotate_left
              ·rintro w' ⟨s0, s1, s2, s3, s4, s5, s6, s7, s8, s9, s10, s11, s12, s13, s14, s15, s16, s17⟩
               go_simp
               with_reducible rfl
              rotate_left
              ·simp only [Act.put, List.setIfInBounds_toArray, List.set_cons_zero, List.set_cons_succ, i64_w, i32_w]
               rfl
              refine pure_ (i := 4) (N := some 36) (v := ?_) (a' := ?_) #[true, true, true, true, true, false, false, true, false, false, false, false, false, false, false, false, false, false, false, false, false, false, false, false, false, false, false, false, false, false] rfl rfl (any_of HT_.out (by kernel_rfl)) (fun _ _ _ h => h) (Or.inl ⟨by rfl, ?_⟩) ?_ ?_
              rotate_left
              ·intro w'
               go_simp
               with_reducible rfl
              rotate_left
              ·simp only [Act.put, List.setIfInBounds_toArray, List.set_cons_zero, List.set_cons_succ, i64_w, i32_w]
               rfl
              refine pure_ (i := 5) (N := some 37) (v := ?_) (a' := ?_) #[true, true, true, true, true, true, false, true, false, false, false, false, false, false, false, false, false, false, false, false, false, false, false, false, false, false, false, false, false, false] rfl rfl (any_of HT_.out (by kernel_rfl)) (fun _ _ _ h => h) (Or.inl ⟨by rfl, ?_⟩) ?_ ?_
              rotate_left
              ·intro w'
               go_simp
               with_reducible rfl
              rotate_left
              ·simp only [Act.put, List.setIfInBounds_toArray, List.set_cons_zero, List.set_cons_succ, i64_w, i32_w]
               rfl
              refine take_ (i := 6) (N := some 38) (v := ?_) (a' := ?_) #[true, true, true, true, true, true, true, true, false, false, false, false, false, false, false, false, false, false, false, false, false, false, false, false, false, false, false, false, false, false] rfl rfl (take_ofW HT_.out HW_.out (by kernel_rfl)) (fun _ _ _ h => h) (Or.inl ⟨by rfl, ?_⟩) hHeld ?_ ?_
              rotate_left
              ·rintro w' ⟨s0, s1, s2, s3, s4, s5, s6, s7, s8, s9, s10, s11, s12, s13, s14, s15, s16, s17⟩
               go_simp
               with_reducible rfl
              rotate_left
              ·simp only [Act.put, List.setIfInBounds_toArray, List.set_cons_zero, List.set_cons_succ, i64_w, i32_w]
               rfl
              refine pure_ (i := 8) (N := some 40) (v := ?_) (a' := ?_) #[true, true, true, true, true, true, true, true, true, false, false, false, false, false, false, false, false, false, false, false, false, false, false, false, false, false, false, false, false, false] rfl rfl (any_of HT_.out (by kernel_rfl)) (fun _ _ _ h => h) (Or.inl ⟨by rfl, ?_⟩) ?_ ?_
              rotate_left
              ·intro w'
               go_simp
               with_reducible rfl
              rotate_left
              ·simp only [Act.put, List.setIfInBounds_toArray, List.set_cons_zero, List.set_cons_succ, i64_w, i32_w]
               rfl
              refine pure_ (i := 9) (N := some 41) (v := ?_) (a' := ?_) #[true, true, true, true, true, true, true, true, true, true, false, false, false, false, false, false, false, false, false, false, false, false, false, false, false, false, false, false, false, false] rfl rfl (any_of HT_.out (by kernel_rfl)) (fun _ _ _ h => h) (Or.inl ⟨by rfl, ?_⟩) ?_ ?_
              rotate_left
              ·intro w'
               go_simp
               with_reducible rfl
              rotate_left
              ·simp only [Act.put, List.setIfInBounds_toArray, List.set_cons_zero, List.set_cons_succ, i64_w, i32_w]
               rfl
              refine take_ (i := 10) (N := some 42) (v := ?_) (a' := ?_) #[true, true, true, true, true, true, true, true, true, true, true, false, false, false, false, false, false, false, false, false, false, false, false, false, false, false, false, false, false, false] rfl rfl (take_ofW HT_.out HW_.out (by kernel_rfl)) (fun _ _ _ h => h) (Or.inl ⟨by rfl, ?_⟩) hHeld ?_ ?_
              rotate_left
              ·rintro w' ⟨s0, s1, s2, s3, s4, s5, s6, s7, s8, s9, s10, s11, s12, s13, s14, s15, s16, s17⟩
               go_simp
               with_reducible rfl
              rotate_left
              ·simp only [Act.put, List.setIfInBounds_toArray, List.set_cons_zero, List.set_cons_succ, i64_w, i32_w]
               rfl
              refine one_ (i := 11) (N := some 43) #[true, true, true, true, true, true, true, true, true, true, true, true, false, false, false, false, false, false, false, false, false, false, false, false, false, false, false, false, false, false] rfl rfl (one_of HT_.out (by kernel_rfl)) (by decide) (fun K hK => ?_)
              refine goes_ Tryd.func22 (by kernel_rfl) rfl #[.agg #[.slice (some ad369) l0_0.length c0_0, .slice A0_1 l0_1.length c0_1], .agg #[.string ((rd_T36 ((rd_T32 l0_0 x3_1).f1) x4_2).f2.f0), .bool ((rd_T36 ((rd_T32 l0_0 x3_1).f1) x4_2).f2.f1)]] (by rfl) rfl rfl (by (try simp only [List.map_toArray, List.map_cons, List.map_nil]); first | done | rfl | (simp only [List.length_drop, List.length_take]; rfl)) ?_
              with_reducible refine (spec_l9Of.calls k2 _ _ l0_0 _ _ l0_1 ((rd_T36 ((rd_T32 l0_0 x3_1).f1) x4_2).f2.f0) ((rd_T36 ((rd_T32 l0_0 x3_1).f1) x4_2).f2.f1) t372 _ ?side1 ?side2 ?side3 ?side4 A22.out).mono ?_
              (case side1 => repeat (first | exact (Kd.C_below HR0_0.out HB.out) | (with_reducible refine Kd.C_alloc ?_ _) | (with_reducible refine Kd.C_drewN ?_ _) | (with_reducible refine Kd.C_drew ?_)))
              (case side2 => exact HC0_0.out)
              (case side3 => repeat (first | exact (Kd.C_below HR0_1.out HB.out) | (with_reducible refine Kd.C_alloc ?_ _) | (with_reducible refine Kd.C_drewN ?_ _) | (with_reducible refine Kd.C_drew ?_)))
              (case side4 => exact HC0_1.out)
              rintro e w35 ⟨rfl, hb⟩
              refine ⟨_, rfl, ?_⟩
              have n0_ := Aside0.mk (blk_below (g := gb366) (o := .cells #[.slice (some ad369) l0_0.length c0_0, .slice A0_1 l0_1.length c0_1] 26 (0, 0)) (by (with_reducible repeat (first | refine blk_drewN ?_ _ | refine blk_drew ?_ | refine blk_alloc ?_ _)); exact qj1.out) hb)
              have n1_ := Aside0.mk (below_step (by repeat (first | (with_reducible first | exact HB.out | apply below_alloc | apply pw_below_drewN | apply below_drew1 | refine below_set ?_ qi1.out) | exact HB.out)) hb)
              clear qj1
              clear HB
              have qj1 := n0_
              have HB := n1_
              clear n0_ n1_
              (try clear hb)
              (try clear hb2)
              (try clear hk)
              (try clear hi)
              refine hK.out _ _ ⟨(blk_cell qj1.out 0).trans rfl, (blk_cell qj1.out 1).trans rfl, ((HB.out.cell (World.block_lt_of_cell? w _ hw370_0)).trans hw370_0), ((HB.out.cell (World.block_lt_of_cell? w _ hw370_1)).trans hw370_1), ((HB.out.cell (World.block_lt_of_cell? w _ hw371_0)).trans hw371_0), ((HB.out.cell (World.block_lt_of_cell? w _ hw371_1)).trans hw371_1), ((HB.out.cell (World.block_lt_of_cell? w _ hw371_2)).trans hw371_2), ((HB.out.cell (World.block_lt_of_cell? w _ hw371_3)).trans hw371_3), ((HB.out.cell (World.block_lt_of_cell? w _ hw371_4)).trans hw371_4), ((HB.out.cell (World.block_lt_of_cell? w _ hw371_5)).trans hw371_5), ((HB.out.cell (World.block_lt_of_cell? w _ hw373_0)).trans hw373_0), ((HB.out.cell (World.block_lt_of_cell? w _ hw373_1)).trans hw373_1), ((HB.out.cell (World.block_lt_of_cell? w _ hw374_0)).trans hw374_0), ((HB.out.cell (World.block_lt_of_cell? w _ hw374_1)).trans hw374_1), ((HB.out.cell (World.block_lt_of_cell? w _ hw374_2)).trans hw374_2), ((HB.out.cell (World.block_lt_of_cell? w _ hw374_3)).trans hw374_3), ((HB.out.cell (World.block_lt_of_cell? w _ hw374_4)).trans hw374_4), ((HB.out.cell (World.block_lt_of_cell? w _ hw374_5)).trans hw374_5)⟩ (fun hHeld => ?_)
              clear hK K
              refine norm_ (a' := ?_) ?_ ?_
              rotate_left
              ·show Act.put _ (some 43) _ = _
               simp only [Act.put, List.setIfInBounds_toArray, List.set_cons_zero, List.set_cons_succ, i64_w, i32_w]
               rfl
              refine pure_ (i := 12) (N := some 44) (v := ?_) (a' := ?_) #[true, true, true, true, true, true, true, true, true, true, true, true, true, false, false, false, false, false, false, false, false, false, false, false, false, false, false, false, false, false] rfl rfl (any_of HT_.out (by kernel_rfl)) (fun _ _ _ h => h) (Or.inl ⟨by rfl, ?_⟩) ?_ ?_
              rotate_left
              ·intro w'
               go_simp
               with_reducible rfl
              rotate_left
              ·simp only [Act.put, List.setIfInBounds_toArray, List.set_cons_zero, List.set_cons_succ, i64_w, i32_w]
               rfl
              refine pure_ (i := 13) (N := some 45) (v := ?_) (a' := ?_) #[true, true, true, true, true, true, true, true, true, true, true, true, true, true, false, false, false, false, false, false, false, false, false, false, false, false, false, false, false, false] rfl rfl (any_of HT_.out (by kernel_rfl)) (fun _ _ _ h => h) (Or.inl ⟨by rfl, ?_⟩) ?_ ?_
              rotate_left
              ·intro w'
               go_simp
               with_reducible rfl
              rotate_left
              ·simp only [Act.put, List.setIfInBounds_toArray, List.set_cons_zero, List.set_cons_succ, i64_w, i32_w]
               rfl
              refine pure_ (i := 15) (N := some 47) (v := ?_) (a' := ?_) #[true, true, true, true, true, true, true, true, true, true, true, true, true, true, false, true, false, false, false, false, false, false, false, false, false, false, false, false, false, false] rfl rfl (any_of HT_.out (by kernel_rfl)) (fun _ _ _ h => h) (Or.inl ⟨by rfl, ?_⟩) ?_ ?_
              rotate_left
              ·intro w'
               go_simp
               with_reducible rfl
              rotate_left
              ·simp only [Act.put, List.setIfInBounds_toArray, List.set_cons_zero, List.set_cons_succ, i64_w, i32_w]
               rfl
              refine pure_ (i := 17) (N := some 49) (v := ?_) (a' := ?_) #[true, true, true, true, true, true, true, true, true, true, true, true, true, true, false, true, false, true, false, false, false, false, false, false, false, false, false, false, false, false] rfl rfl (any_of HT_.out (by kernel_rfl)) (fun _ _ _ h => h) (Or.inl ⟨by rfl, ?_⟩) ?_ ?_
              rotate_left
              ·intro w'
               go_simp
               with_reducible rfl
              rotate_left
              ·simp only [Act.put, List.setIfInBounds_toArray, List.set_cons_zero, List.set_cons_succ, i64_w, i32_w]
               rfl
              refine pure_ (i := 21) (N := some 53) (v := ?_) (a' := ?_) #[true, true, true, true, true, true, true, true, true, true, true, true, true, true, false, true, false, true, false, false, false, true, false, false, false, false, false, false, false, false] rfl rfl (any_of HT_.out (by kernel_rfl)) (fun _ _ _ h => h) (Or.inl ⟨by rfl, ?_⟩) ?_ ?_
              rotate_left
              ·intro w'
               go_simp
               with_reducible rfl
              rotate_left
              ·simp only [Act.put, List.setIfInBounds_toArray, List.set_cons_zero, List.set_cons_succ, i64_w, i32_w]
               rfl
              refine take_ (i := 14) (N := some 46) (v := ?_) (a' := ?_) #[true, true, true, true, true, true, true, true, true, true, true, true, true, true, true, true, false, true, false, false, false, true, false, false, false, false, false, false, false, false] rfl rfl (take_ofW HT_.out HW_.out (by kernel_rfl)) (fun _ _ _ h => h) (Or.inl ⟨by rfl, ?_⟩) hHeld ?_ ?_
              rotate_left
              ·rintro w' ⟨s0, s1, s2, s3, s4, s5, s6, s7, s8, s9, s10, s11, s12, s13, s14, s15, s16, s17⟩
               go_simp
               with_reducible rfl
              rotate_left
              ·simp only [Act.put, List.setIfInBounds_toArray, List.set_cons_zero, List.set_cons_succ, i64_w, i32_w]
               rfl
              refine take_ (i := 16) (N := some 48) (v := ?_) (a' := ?_) #[true, true, true, true, true, true, true, true, true, true, true, true, true, true, true, true, true, true, false, false, false, true, false, false, false, false, false, false, false, false] rfl rfl (take_ofW HT_.out HW_.out (by kernel_rfl)) (fun _ _ _ h => h) (Or.inl ⟨by rfl, ?_⟩) hHeld ?_ ?_
              rotate_left
              ·rintro w' ⟨s0, s1, s2, s3, s4, s5, s6, s7, s8, s9, s10, s11, s12, s13, s14, s15, s16, s17⟩
               go_simp
               with_reducible rfl
              rotate_left
              ·simp only [Act.put, List.setIfInBounds_toArray, List.set_cons_zero, List.set_cons_succ, i64_w, i32_w]
               rfl
              refine pure_ (i := 18) (N := some 50) (v := ?_) (a' := ?_) #[true, true, true, true, true, true, true, true, true, true, true, true, true, true, true, true, true, true, true, false, false, true, false, false, false, false, false, false, false, false] rfl rfl (any_of HT_.out (by kernel_rfl)) (fun _ _ _ h => h) (Or.inl ⟨by rfl, ?_⟩) ?_ ?_
              rotate_left
              ·intro w'
               go_simp
               with_reducible rfl
              rotate_left
              ·simp only [Act.put, List.setIfInBounds_toArray, List.set_cons_zero, List.set_cons_succ, i64_w, i32_w]
               rfl
              refine pure_ (i := 19) (N := some 51) (v := ?_) (a' := ?_) #[true, true, true, true, true, true, true, true, true, true, true, true, true, true, true, true, true, true, true, true, false, true, false, false, false, false, false, false, false, false] rfl rfl (any_of HT_.out (by kernel_rfl)) (fun _ _ _ h => h) (Or.inl ⟨by rfl, ?_⟩) ?_ ?_
              rotate_left
              ·intro w'
               go_simp
               with_reducible rfl
              rotate_left
              ·simp only [Act.put, List.setIfInBounds_toArray, List.set_cons_zero, List.set_cons_succ, i64_w, i32_w]
               rfl
              refine take_ (i := 20) (N := some 52) (v := ?_) (a' := ?_) #[true, true, true, true, true, true, true, true, true, true, true, true, true, true, true, true, true, true, true, true, true, true, false, false, false, false, false, false, false, false] rfl rfl (take_ofW HT_.out HW_.out (by kernel_rfl)) (fun _ _ _ h => h) (Or.inl ⟨by rfl, ?_⟩) hHeld ?_ ?_
              rotate_left
              ·rintro w' ⟨s0, s1, s2, s3, s4, s5, s6, s7, s8, s9, s10, s11, s12, s13, s14, s15, s16, s17⟩
               go_simp
               with_reducible rfl
              rotate_left
              ·simp only [Act.put, List.setIfInBounds_toArray, List.set_cons_zero, List.set_cons_succ, i64_w, i32_w]
               rfl
              refine pure_ (i := 22) (N := some 54) (v := ?_) (a' := ?_) #[true, true, true, true, true, true, true, true, true, true, true, true, true, true, true, true, true, true, true, true, true, true, true, false, false, false, false, false, false, false] rfl rfl (any_of HT_.out (by kernel_rfl)) (fun _ _ _ h => h) (Or.inl ⟨by rfl, ?_⟩) ?_ ?_
              rotate_left
              ·intro w'
               go_simp
               with_reducible rfl
              rotate_left
              ·simp only [Act.put, List.setIfInBounds_toArray, List.set_cons_zero, List.set_cons_succ, i64_w, i32_w]
               rfl
              refine pure_ (i := 23) (N := some 55) (v := ?_) (a' := ?_) #[true, true, true, true, true, true, true, true, true, true, true, true, true, true, true, true, true, true, true, true, true, true, true, true, false, false, false, false, false, false] rfl rfl (any_of HT_.out (by kernel_rfl)) (fun _ _ _ h => h) (Or.inl ⟨by rfl, ?_⟩) ?_ ?_
              rotate_left
              ·intro w'
               go_simp
               with_reducible rfl
              rotate_left
              ·simp only [Act.put, List.setIfInBounds_toArray, List.set_cons_zero, List.set_cons_succ, i64_w, i32_w]
               rfl
              refine pure_ (i := 24) (N := some 56) (v := ?_) (a' := ?_) #[true, true, true, true, true, true, true, true, true, true, true, true, true, true, true, true, true, true, true, true, true, true, true, true, true, false, false, false, false, false] rfl rfl (any_of HT_.out (by kernel_rfl)) (fun _ _ _ h => h) (Or.inl ⟨by rfl, ?_⟩) ?_ ?_
              rotate_left
              ·intro w'
               go_simp
               with_reducible rfl
              rotate_left
              ·simp only [Act.put, List.setIfInBounds_toArray, List.set_cons_zero, List.set_cons_succ, i64_w, i32_w]
               rfl
              refine take_ (i := 25) (N := some 57) (v := ?_) (a' := ?_) #[true, true, true, true, true, true, true, true, true, true, true, true, true, true, true, true, true, true, true, true, true, true, true, true, true, true, false, false, false, false] rfl rfl (take_ofW HT_.out HW_.out (by kernel_rfl)) (fun _ _ _ h => h) (Or.inl ⟨by rfl, ?_⟩) hHeld ?_ ?_
              rotate_left
              ·rintro w' ⟨s0, s1, s2, s3, s4, s5, s6, s7, s8, s9, s10, s11, s12, s13, s14, s15, s16, s17⟩
               go_simp
               with_reducible rfl
              rotate_left
              ·simp only [Act.put, List.setIfInBounds_toArray, List.set_cons_zero, List.set_cons_succ, i64_w, i32_w]
               rfl
              refine pure_ (i := 26) (N := some 58) (v := ?_) (a' := ?_) #[true, true, true, true, true, true, true, true, true, true, true, true, true, true, true, true, true, true, true, true, true, true, true, true, true, true, true, false, false, false] rfl rfl (any_of HT_.out (by kernel_rfl)) (fun _ _ _ h => h) (Or.inl ⟨by rfl, ?_⟩) ?_ ?_
              rotate_left
              ·intro w'
               go_simp
               with_reducible rfl
              rotate_left
              ·simp only [Act.put, List.setIfInBounds_toArray, List.set_cons_zero, List.set_cons_succ, i64_w, i32_w]
               rfl
              refine one_ (i := 27) (N := some 59) #[true, true, true, true, true, true, true, true, true, true, true, true, true, true, true, true, true, true, true, true, true, true, true, true, true, true, true, true, false, false] rfl rfl (one_of HT_.out (by kernel_rfl)) (by decide) (fun K hK => ?_)
              refine goes_ Tryd.func22 (by kernel_rfl) rfl #[.agg #[.slice (some ad369) l0_0.length c0_0, .slice A0_1 l0_1.length c0_1], .agg #[.string ((rd_T36 ((rd_T32 l0_0 x3_1).f1) x4_2).f2.f0), .bool false]] (by rfl) rfl rfl (by (try simp only [List.map_toArray, List.map_cons, List.map_nil]); first | done | rfl | (simp only [List.length_drop, List.length_take]; rfl)) ?_
              with_reducible refine (spec_l9Of.calls k2 _ _ l0_0 _ _ l0_1 ((rd_T36 ((rd_T32 l0_0 x3_1).f1) x4_2).f2.f0) false t375 _ ?side1 ?side2 ?side3 ?side4 A27.out).mono ?_
              (case side1 => repeat (first | exact (Kd.C_below HR0_0.out HB.out) | (with_reducible refine Kd.C_alloc ?_ _) | (with_reducible refine Kd.C_drewN ?_ _) | (with_reducible refine Kd.C_drew ?_)))
              (case side2 => exact HC0_0.out)
              (case side3 => repeat (first | exact (Kd.C_below HR0_1.out HB.out) | (with_reducible refine Kd.C_alloc ?_ _) | (with_reducible refine Kd.C_drewN ?_ _) | (with_reducible refine Kd.C_drew ?_)))
              (case side4 => exact HC0_1.out)
              rintro e w36 ⟨rfl, hb⟩
              refine ⟨_, rfl, ?_⟩
              have n0_ := Aside0.mk (blk_below (g := gb366) (o := .cells #[.slice (some ad369) l0_0.length c0_0, .slice A0_1 l0_1.length c0_1] 26 (0, 0)) (by (with_reducible repeat (first | refine blk_drewN ?_ _ | refine blk_drew ?_ | refine blk_alloc ?_ _)); exact qj1.out) hb)
              have n1_ := Aside0.mk (below_step (by repeat (first | (with_reducible first | exact HB.out | apply below_alloc | apply pw_below_drewN | apply below_drew1 | refine below_set ?_ qi1.out) | exact HB.out)) hb)
              clear qj1
              clear HB
              have qj1 := n0_
              have HB := n1_
              clear n0_ n1_
              (try clear hb)
              (try clear hb2)
              (try clear hk)
              (try clear hi)
              refine hK.out _ _ ⟨(blk_cell qj1.out 0).trans rfl, (blk_cell qj1.out 1).trans rfl, ((HB.out.cell (World.block_lt_of_cell? w _ hw370_0)).trans hw370_0), ((HB.out.cell (World.block_lt_of_cell? w _ hw370_1)).trans hw370_1), ((HB.out.cell (World.block_lt_of_cell? w _ hw371_0)).trans hw371_0), ((HB.out.cell (World.block_lt_of_cell? w _ hw371_1)).trans hw371_1), ((HB.out.cell (World.block_lt_of_cell? w _ hw371_2)).trans hw371_2), ((HB.out.cell (World.block_lt_of_cell? w _ hw371_3)).trans hw371_3), ((HB.out.cell (World.block_lt_of_cell? w _ hw371_4)).trans hw371_4), ((HB.out.cell (World.block_lt_of_cell? w _ hw371_5)).trans hw371_5), ((HB.out.cell (World.block_lt_of_cell? w _ hw373_0)).trans hw373_0), ((HB.out.cell (World.block_lt_of_cell? w _ hw373_1)).trans hw373_1), ((HB.out.cell (World.block_lt_of_cell? w _ hw374_0)).trans hw374_0), ((HB.out.cell (World.block_lt_of_cell? w _ hw374_1)).trans hw374_1), ((HB.out.cell (World.block_lt_of_cell? w _ hw374_2)).trans hw374_2), ((HB.out.cell (World.block_lt_of_cell? w _ hw374_3)).trans hw374_3), ((HB.out.cell (World.block_lt_of_cell? w _ hw374_4)).trans hw374_4), ((HB.out.cell (World.block_lt_of_cell? w _ hw374_5)).trans hw374_5)⟩ (fun hHeld => ?_)
              clear hK K
              refine norm_ (a' := ?_) ?_ ?_
              rotate_left
              ·show Act.put _ (some 59) _ = _
               simp only [Act.put, List.setIfInBounds_toArray, List.set_cons_zero, List.set_cons_succ, i64_w, i32_w]
               rfl
              refine pure_ (i := 28) (N := some 60) (v := ?_) (a' := ?_) #[true, true, true, true, true, true, true, true, true, true, true, true, true, true, true, true, true, true, true, true, true, true, true, true, true, true, true, true, true, false] rfl rfl (any_of HT_.out (by kernel_rfl)) (fun _ _ _ h => h) (Or.inl ⟨by rfl, ?_⟩) ?_ ?_
              rotate_left
              ·intro w'
               go_simp
               with_reducible rfl
              rotate_left
              ·simp only [Act.put, List.setIfInBounds_toArray, List.set_cons_zero, List.set_cons_succ, i64_w, i32_w]
               rfl
              refine pure_ (i := 29) (N := some 61) (v := ?_) (a' := ?_) #[true, true, true, true, true, true, true, true, true, true, true, true, true, true, true, true, true, true, true, true, true, true, true, true, true, true, true, true, true, true] rfl rfl (any_of HT_.out (by kernel_rfl)) (fun _ _ _ h => h) (Or.inl ⟨by rfl, ?_⟩) ?_ ?_
              rotate_left
              ·intro w'
               go_simp
               with_reducible rfl
              rotate_left
              ·simp only [Act.put, List.setIfInBounds_toArray, List.set_cons_zero, List.set_cons_succ, i64_w, i32_w]
               rfl
              refine done_ (done_of HT_.out (by kernel_rfl)) ?_
              try go_wp2
              go_roundg k2
              case measure => have := HK1.out; have := HK2.out; omega
              case rel => exact ⟨(wrap64 (x4_2 + 1)), (by first | rfl | (simp; done) | (simp [*]; done)), H', ⟨by have := HK1.out; have := HK2.out; omega⟩, ⟨by (with_reducible repeat (first | refine blk_drewN ?_ _ | refine blk_drew ?_ | refine blk_alloc ?_ _)); exact qj1.out⟩, ⟨by repeat (first | (with_reducible first | exact HB.out | apply below_alloc | apply pw_below_drewN | apply below_drew1 | refine below_set ?_ qi1.out) | exact HB.out)⟩⟩
           ·rw [if_neg c21] at H
            exact absurd H (by simp)
          ·rw [if_neg c20] at H
           have c20b0 : decide (x4_2 < (((rd_T32 l0_0 x3_1).f1).length : Int)) = false := decide_eq_false c20
           clear c20
           have H' := Aside0.mk H
           clear H
           have hcz37_0 : wr.cell? ⟨gb366, 0, none⟩ = some (.slice A0_0 l0_0.length c0_0) := (blk_cell qj1.out 0).trans rfl
           have hcz37_1 : wr.cell? ⟨gb366, 1, none⟩ = some (.slice A0_1 l0_1.length c0_1) := (blk_cell qj1.out 1).trans rfl
           have hfz37_0 := blk_frozen qj1.out 0
           have hfz37_1 := blk_frozen qj1.out 1
           have p369 : 0 ≤ (x3_1 : Int) := of_decide_eq_true (by first | (with_reducible assumption) | assumption)
           have q369 : x3_1 < (l0_0.length : Int) := of_decide_eq_true (by first | (with_reducible assumption) | assumption)
           obtain ⟨ad369, A369_1, c369_1, e369, qi, qb1, hl369_1, hi369_1⟩ := at_T32 HR0_0.out x3_1 p369 q369
           cases e369
           replace qi := (HB.out.cell (World.block_lt_of_cell? w _ qi)).trans qi
           replace qb1 := (HB.out.cell (World.block_lt_of_cell? w _ qb1)).trans qb1
           have HR369_1 := Aside0.mk hi369_1
           have HC369_1 := Aside0.mk hl369_1
           clear hi369_1 hl369_1
           replace p369 := eq_true p369
           replace q369 := eq_true q369
           go_wp2
           go_roundg k2
           case measure => have := HK1.out; have := HK2.out; omega
           case rel => exact ⟨(wrap64 (x3_1 + 1)), (by first | rfl | (simp; done) | (simp [*]; done)), H', ⟨by have := HK1.out; have := HK2.out; omega⟩, ⟨by (with_reducible repeat (first | refine blk_drewN ?_ _ | refine blk_drew ?_ | refine blk_alloc ?_ _)); exact qj1.out⟩, ⟨by repeat (first | (with_reducible first | exact HB.out | apply below_alloc | apply pw_below_drewN | apply below_drew1 | refine below_set ?_ qi1.out) | exact HB.out)⟩⟩
         ·rw [if_neg c19] at H
          exact absurd H (by simp)
        ·rw [if_neg c18] at H
         exact absurd H (by simp)
     ·rw [if_neg c16] at H
      have c16b0 : decide (x3_1 < (l0_0.length : Int)) = false := decide_eq_false c16
      clear c16
      have H' := Aside0.mk H
      clear H
      have hcz38_0 : wr.cell? ⟨gb366, 0, none⟩ = some (.slice A0_0 l0_0.length c0_0) := (blk_cell qj1.out 0).trans rfl
      have hcz38_1 : wr.cell? ⟨gb366, 1, none⟩ = some (.slice A0_1 l0_1.length c0_1) := (blk_cell qj1.out 1).trans rfl
      have hfz38_0 := blk_frozen qj1.out 0
      have hfz38_1 := blk_frozen qj1.out 1
      go_wp2
      go_loopg [5] k1 (fun kq v5 w' => ∃ (x5_2 : Int), v5 = .int .i64 x5_2 ∧ Aside0 (spec_IdlCheck.l2 kq x5_2 l0_0 l0_1 = some r) ∧ Aside0 (kq ≤ k1) ∧ Aside0 (w'.heap[gb366]? = some (.cells #[(.slice A0_0 l0_0.length c0_0), (.slice A0_1 l0_1.length c0_1)] 26 (0, 0))) ∧ Aside0 (Below w.heap.size w w'))
      case atStart => exact ⟨(0), (by first | rfl | (simp; done) | (simp [*]; done)), H', ⟨Nat.le_refl _⟩, ⟨by (with_reducible repeat (first | refine blk_drewN ?_ _ | refine blk_drew ?_ | refine blk_alloc ?_ _)); exact qj1.out⟩, ⟨by repeat (first | (with_reducible first | exact HB.out | apply below_alloc | apply pw_below_drewN | apply below_drew1 | refine below_set ?_ qi1.out) | exact HB.out)⟩⟩
      case round =>
       clear H'
       try clear c1
       try clear c2
       try clear p2
       try clear c3
       try clear p3
       try clear q3
       try clear hx3
       try clear p6
       try clear c16
       try clear c16b0
       try clear c18
       try clear c19
       try clear c20
       try clear c20b0
       try clear c21
       try clear c22
       try clear c28
       try clear c28b0
       try clear c28b1
       try clear c36
       try clear p36
       try clear q36
       try clear hx36
       try clear c37
       try clear p37
       try clear q37
       try clear hx37
       try clear hcz33_0
       try clear hcz33_1
       try clear hcz37_0
       try clear hcz37_1
       try clear hcz38_0
       try clear hcz38_1
       try clear hfz33_0
       try clear hfz33_1
       try clear hfz37_0
       try clear hfz37_1
       try clear hfz38_0
       try clear hfz38_1
       try clear qi
       try clear qb1
       try clear qw
       try clear qa1
       try clear qe
       try clear qs
       try clear qn
       try clear qj
       try clear qm
       try clear qd1
       try clear qf1
       try clear qc
       try clear qz
       try clear ql
       try clear qt
       try clear qg
       try clear qk
       try clear qb
       try clear p369
       try clear p370
       try clear p371
       try clear p373
       try clear p374
       try clear q369
       try clear q370
       try clear q371
       try clear q373
       try clear q374
       obtain ⟨x5_2, rfl, HA, HK2, qj1, HB⟩ := hrel
       cases gk with
       | zero => exact absurd HA.out (by simp [spec_IdlCheck.l2])
       | succ k2 =>
        have H := HA.out
        clear HA
        simp only [spec_IdlCheck.l2] at H
        by_cases c39 : x5_2 < (l0_0.length : Int)
        ·rw [if_pos c39] at H
         have c39b0 : decide (x5_2 < (l0_0.length : Int)) = true := decide_eq_true c39
         clear c39
         have H' := Aside0.mk H
         clear H
         have hcz40_0 : wr.cell? ⟨gb366, 0, none⟩ = some (.slice A0_0 l0_0.length c0_0) := (blk_cell qj1.out 0).trans rfl
         have hcz40_1 : wr.cell? ⟨gb366, 1, none⟩ = some (.slice A0_1 l0_1.length c0_1) := (blk_cell qj1.out 1).trans rfl
         have hfz40_0 := blk_frozen qj1.out 0
         have hfz40_1 := blk_frozen qj1.out 1
         go_wp2
         go_loopg [6] k2 (fun kq v6 w' => ∃ (x6_3 : Int), v6 = .int .i64 x6_3 ∧ Aside0 (spec_IdlCheck.l3 kq x5_2 x6_3 l0_0 l0_1 = some r) ∧ Aside0 (kq ≤ k2) ∧ Aside0 (w'.heap[gb366]? = some (.cells #[(.slice A0_0 l0_0.length c0_0), (.slice A0_1 l0_1.length c0_1)] 26 (0, 0))) ∧ Aside0 (Below w.heap.size w w'))
         case atStart => exact ⟨(0), (by first | rfl | (simp; done) | (simp [*]; done)), H', ⟨Nat.le_refl _⟩, ⟨by (with_reducible repeat (first | refine blk_drewN ?_ _ | refine blk_drew ?_ | refine blk_alloc ?_ _)); exact qj1.out⟩, ⟨by repeat (first | (with_reducible first | exact HB.out | apply below_alloc | apply pw_below_drewN | apply below_drew1 | refine below_set ?_ qi1.out) | exact HB.out)⟩⟩
         case round =>
          clear H'
          try clear c1
          try clear c2
          try clear p2
          try clear c3
          try clear p3
          try clear q3
          try clear hx3
          try clear p6
          try clear c16
          try clear c16b0
          try clear c18
          try clear c19
          try clear c20
          try clear c20b0
          try clear c21
          try clear c22
          try clear c28
          try clear c28b0
          try clear c28b1
          try clear c36
          try clear p36
          try clear q36
          try clear hx36
          try clear c37
          try clear p37
          try clear q37
          try clear hx37
          try clear c39
          try clear c39b0
          try clear hcz33_0
          try clear hcz33_1
          try clear hcz37_0
          try clear hcz37_1
          try clear hcz38_0
          try clear hcz38_1
          try clear hcz40_0
          try clear hcz40_1
          try clear hfz33_0
          try clear hfz33_1
          try clear hfz37_0
          try clear hfz37_1
          try clear hfz38_0
          try clear hfz38_1
          try clear hfz40_0
          try clear hfz40_1
          try clear qi
          try clear qb1
          try clear qw
          try clear qa1
          try clear qe
          try clear qs
          try clear qn
          try clear qj
          try clear qm
          try clear qd1
          try clear qf1
          try clear qc
          try clear qz
          try clear ql
          try clear qt
          try clear qg
          try clear qk
          try clear qb
          try clear p2
          try clear p3
          try clear p36
          try clear p369
          try clear p37
          try clear p370
          try clear p371
          try clear p373
          try clear p374
          try clear p6
          try clear q3
          try clear q36
          try clear q369
          try clear q37
          try clear q370
          try clear q371
          try clear q373
          try clear q374
          obtain ⟨x6_3, rfl, HA, HK3, qj1, HB⟩ := hrel
          cases gk with
          | zero => exact absurd HA.out (by simp [spec_IdlCheck.l3])
          | succ k3 =>
           have H := HA.out
           clear HA
           simp only [spec_IdlCheck.l3] at H
           by_cases c41 : 0 ≤ x5_2
           ·rw [if_pos c41] at H
            have c41b0 : decide (0 ≤ x5_2) = true := decide_eq_true c41
            clear c41
            by_cases c42 : x5_2 < (l0_0.length : Int)
            ·rw [if_pos c42] at H
             have c42b0 : decide (x5_2 < (l0_0.length : Int)) = true := decide_eq_true c42
             clear c42
             by_cases c43 : x6_3 < (((rd_T32 l0_0 x5_2).f1).length : Int)
             ·rw [if_pos c43] at H
              have c43b0 : decide (x6_3 < (((rd_T32 l0_0 x5_2).f1).length : Int)) = true := decide_eq_true c43
              clear c43
              replace H := Option.bind_eq_some_iff.mp H
              obtain ⟨t378, A440, H⟩ := H
              replace H : (if t378 < 0 then (some 4) else (spec_IdlCheck.l3 k3 x5_2 (wrap64 (x6_3 + 1)) l0_0 l0_1)) = some r := H
              have A44 := Aside0.mk A440
              clear A440
              by_cases c45 : t378 < 0
              ·rw [if_pos c45] at H
               have c45b0 : decide (t378 < 0) = true := decide_eq_true c45
               clear c45
               obtain rfl := Option.some.inj H
               have hcz46_0 : wr.cell? ⟨gb366, 0, none⟩ = some (.slice A0_0 l0_0.length c0_0) := (blk_cell qj1.out 0).trans rfl
               have hcz46_1 : wr.cell? ⟨gb366, 1, none⟩ = some (.slice A0_1 l0_1.length c0_1) := (blk_cell qj1.out 1).trans rfl
               have hfz46_0 := blk_frozen qj1.out 0
               have hfz46_1 := blk_frozen qj1.out 1
               have p376 : 0 ≤ (x5_2 : Int) := of_decide_eq_true (by first | (with_reducible assumption) | assumption)
               have q376 : x5_2 < (l0_0.length : Int) := of_decide_eq_true (by first | (with_reducible assumption) | assumption)
               obtain ⟨ad376, A376_1, c376_1, e376, qp, qh, hl376_1, hi376_1⟩ := at_T32 HR0_0.out x5_2 p376 q376
               cases e376
               replace qp := (HB.out.cell (World.block_lt_of_cell? w _ qp)).trans qp
               replace qh := (HB.out.cell (World.block_lt_of_cell? w _ qh)).trans qh
               have HR376_1 := Aside0.mk hi376_1
               have HC376_1 := Aside0.mk hl376_1
               clear hi376_1 hl376_1
               replace p376 := eq_true p376
               replace q376 := eq_true q376
               have p377 : 0 ≤ (x5_2 : Int) := of_decide_eq_true (by first | (with_reducible assumption) | assumption)
               have q377 : x5_2 < (l0_0.length : Int) := of_decide_eq_true (by first | (with_reducible assumption) | assumption)
               obtain ⟨ad377, A377_1, c377_1, e377, qr, qc1, hl377_1, hi377_1⟩ := at_T32 HR0_0.out x5_2 p377 q377
               obtain rfl : ad376 = ad377 := (by injection e377)
               replace qr := (HB.out.cell (World.block_lt_of_cell? w _ qr)).trans qr
               replace qc1 := (HB.out.cell (World.block_lt_of_cell? w _ qc1)).trans qc1
               have HR377_1 := Aside0.mk hi377_1
               have HC377_1 := Aside0.mk hl377_1
               clear hi377_1 hl377_1
               replace p377 := eq_true p377
               replace q377 := eq_true q377
               have ea_ := Option.some.inj (qh.symm.trans qc1)
               injection ea_ with ea_ en_ ec_
               subst ea_
               subst ec_
               clear en_
               go_wp2_with (first | ((with_reducible refine gate_callee (f := 23) rfl ?_); refine goesL_ (some 86) rfl rfl Tryd.func23 (by kernel_rfl) rfl #[.agg #[.string ((rd_T32 l0_0 x5_2).f0), .slice A376_1 ((rd_T32 l0_0 x5_2).f1).length c376_1], .int .i64 x6_3] rfl (by (try simp only [List.map_toArray, List.map_cons, List.map_nil]); first | done | rfl | (simp only [List.length_drop, List.length_take]; rfl)) ?_; (with_reducible refine (spec_l9Decl.calls k3 ((rd_T32 l0_0 x5_2).f0) _ _ ((rd_T32 l0_0 x5_2).f1) x6_3 t378 _ ?side1 ?side2 A44.out).mono ?_); (case side1 => repeat (first | exact (Kd.C_below HR377_1.out HB.out) | (with_reducible refine Kd.C_alloc ?_ _) | (with_reducible refine Kd.C_drewN ?_ _) | (with_reducible refine Kd.C_drew ?_))); (case side2 => exact HC377_1.out); rintro e w47 ⟨rfl, hb⟩; refine ⟨_, rfl, ?_⟩; have n0_ := Aside0.mk (blk_below (g := gb366) (o := .cells #[.slice (some ad376) l0_0.length c0_0, .slice A0_1 l0_1.length c0_1] 26 (0, 0)) (by (with_reducible repeat (first | refine blk_drewN ?_ _ | refine blk_drew ?_ | refine blk_alloc ?_ _)); exact qj1.out) hb); have n1_ := Aside0.mk (below_step (by repeat (first | (with_reducible first | exact HB.out | apply below_alloc | apply pw_below_drewN | apply below_drew1 | refine below_set ?_ qi1.out) | exact HB.out)) hb); clear qj1; clear HB; have qj1 := n0_; have HB := n1_; clear n0_ n1_; (try clear hb); (try clear hb2); (try clear hk); (try clear hi)))
               go_ret
               exact ⟨by first | rfl | (simp [errW_none, errW_some] <;> rfl) | (simp [*, errW_none, errW_some] <;> rfl) | (simp only [Bool.and_eq_true, beq_iff_eq, Bool.not_eq_true', Bool.not_eq_eq_eq_not, Bool.not_true, Bool.not_false] at *; simp [*]), by repeat (first | (with_reducible first | exact HB.out | apply below_alloc | apply pw_below_drewN | apply below_drew1 | refine below_set ?_ qi1.out) | exact HB.out)⟩
              ·rw [if_neg c45] at H
               have c45b0 : decide (t378 < 0) = false := decide_eq_false c45
               clear c45
               have H' := Aside0.mk H
               clear H
               have hcz48_0 : wr.cell? ⟨gb366, 0, none⟩ = some (.slice A0_0 l0_0.length c0_0) := (blk_cell qj1.out 0).trans rfl
               have hcz48_1 : wr.cell? ⟨gb366, 1, none⟩ = some (.slice A0_1 l0_1.length c0_1) := (blk_cell qj1.out 1).trans rfl
               have hfz48_0 := blk_frozen qj1.out 0
               have hfz48_1 := blk_frozen qj1.out 1
               have p376 : 0 ≤ (x5_2 : Int) := of_decide_eq_true (by first | (with_reducible assumption) | assumption)
               have q376 : x5_2 < (l0_0.length : Int) := of_decide_eq_true (by first | (with_reducible assumption) | assumption)
               obtain ⟨ad376, A376_1, c376_1, e376, qp, qh, hl376_1, hi376_1⟩ := at_T32 HR0_0.out x5_2 p376 q376
               cases e376
               replace qp := (HB.out.cell (World.block_lt_of_cell? w _ qp)).trans qp
               replace qh := (HB.out.cell (World.block_lt_of_cell? w _ qh)).trans qh
               have HR376_1 := Aside0.mk hi376_1
               have HC376_1 := Aside0.mk hl376_1
               clear hi376_1 hl376_1
               replace p376 := eq_true p376
               replace q376 := eq_true q376
               have p377 : 0 ≤ (x5_2 : Int) := of_decide_eq_true (by first | (with_reducible assumption) | assumption)
               have q377 : x5_2 < (l0_0.length : Int) := of_decide_eq_true (by first | (with_reducible assumption) | assumption)
               obtain ⟨ad377, A377_1, c377_1, e377, qr, qc1, hl377_1, hi377_1⟩ := at_T32 HR0_0.out x5_2 p377 q377
               obtain rfl : ad376 = ad377 := (by injection e377)
               replace qr := (HB.out.cell (World.block_lt_of_cell? w _ qr)).trans qr
               replace qc1 := (HB.out.cell (World.block_lt_of_cell? w _ qc1)).trans qc1
               have HR377_1 := Aside0.mk hi377_1
               have HC377_1 := Aside0.mk hl377_1
               clear hi377_1 hl377_1
               replace p377 := eq_true p377
               replace q377 := eq_true q377
               have ea_ := Option.some.inj (qh.symm.trans qc1)
               injection ea_ with ea_ en_ ec_
               subst ea_
               subst ec_
               clear en_
               go_wp2_with (first | ((with_reducible refine gate_callee (f := 23) rfl ?_); refine goesL_ (some 86) rfl rfl Tryd.func23 (by kernel_rfl) rfl #[.agg #[.string ((rd_T32 l0_0 x5_2).f0), .slice A376_1 ((rd_T32 l0_0 x5_2).f1).length c376_1], .int .i64 x6_3] rfl (by (try simp only [List.map_toArray, List.map_cons, List.map_nil]); first | done | rfl | (simp only [List.length_drop, List.length_take]; rfl)) ?_; (with_reducible refine (spec_l9Decl.calls k3 ((rd_T32 l0_0 x5_2).f0) _ _ ((rd_T32 l0_0 x5_2).f1) x6_3 t378 _ ?side1 ?side2 A44.out).mono ?_); (case side1 => repeat (first | exact (Kd.C_below HR377_1.out HB.out) | (with_reducible refine Kd.C_alloc ?_ _) | (with_reducible refine Kd.C_drewN ?_ _) | (with_reducible refine Kd.C_drew ?_))); (case side2 => exact HC377_1.out); rintro e w49 ⟨rfl, hb⟩; refine ⟨_, rfl, ?_⟩; have n0_ := Aside0.mk (blk_below (g := gb366) (o := .cells #[.slice (some ad376) l0_0.length c0_0, .slice A0_1 l0_1.length c0_1] 26 (0, 0)) (by (with_reducible repeat (first | refine blk_drewN ?_ _ | refine blk_drew ?_ | refine blk_alloc ?_ _)); exact qj1.out) hb); have n1_ := Aside0.mk (below_step (by repeat (first | (with_reducible first | exact HB.out | apply below_alloc | apply pw_below_drewN | apply below_drew1 | refine below_set ?_ qi1.out) | exact HB.out)) hb); clear qj1; clear HB; have qj1 := n0_; have HB := n1_; clear n0_ n1_; (try clear hb); (try clear hb2); (try clear hk); (try clear hi)))
               go_roundg k3
               case measure => have := HK1.out; have := HK2.out; have := HK3.out; omega
               case rel => exact ⟨(wrap64 (x6_3 + 1)), (by first | rfl | (simp; done) | (simp [*]; done)), H', ⟨by have := HK1.out; have := HK2.out; have := HK3.out; omega⟩, ⟨by (with_reducible repeat (first | refine blk_drewN ?_ _ | refine blk_drew ?_ | refine blk_alloc ?_ _)); exact qj1.out⟩, ⟨by repeat (first | (with_reducible first | exact HB.out | apply below_alloc | apply pw_below_drewN | apply below_drew1 | refine below_set ?_ qi1.out) | exact HB.out)⟩⟩
             ·rw [if_neg c43] at H
              have c43b0 : decide (x6_3 < (((rd_T32 l0_0 x5_2).f1).length : Int)) = false := decide_eq_false c43
              clear c43
              have H' := Aside0.mk H
              clear H
              have hcz50_0 : wr.cell? ⟨gb366, 0, none⟩ = some (.slice A0_0 l0_0.length c0_0) := (blk_cell qj1.out 0).trans rfl
              have hcz50_1 : wr.cell? ⟨gb366, 1, none⟩ = some (.slice A0_1 l0_1.length c0_1) := (blk_cell qj1.out 1).trans rfl
              have hfz50_0 := blk_frozen qj1.out 0
              have hfz50_1 := blk_frozen qj1.out 1
              have p376 : 0 ≤ (x5_2 : Int) := of_decide_eq_true (by first | (with_reducible assumption) | assumption)
              have q376 : x5_2 < (l0_0.length : Int) := of_decide_eq_true (by first | (with_reducible assumption) | assumption)
              obtain ⟨ad376, A376_1, c376_1, e376, qp, qh, hl376_1, hi376_1⟩ := at_T32 HR0_0.out x5_2 p376 q376
              cases e376
              replace qp := (HB.out.cell (World.block_lt_of_cell? w _ qp)).trans qp
              replace qh := (HB.out.cell (World.block_lt_of_cell? w _ qh)).trans qh
              have HR376_1 := Aside0.mk hi376_1
              have HC376_1 := Aside0.mk hl376_1
              clear hi376_1 hl376_1
              replace p376 := eq_true p376
              replace q376 := eq_true q376
              go_wp2
              go_roundg k3
              case measure => have := HK1.out; have := HK2.out; have := HK3.out; omega
              case rel => exact ⟨(wrap64 (x5_2 + 1)), (by first | rfl | (simp; done) | (simp [*]; done)), H', ⟨by have := HK1.out; have := HK2.out; have := HK3.out; omega⟩, ⟨by (with_reducible repeat (first | refine blk_drewN ?_ _ | refine blk_drew ?_ | refine blk_alloc ?_ _)); exact qj1.out⟩, ⟨by repeat (first | (with_reducible first | exact HB.out | apply below_alloc | apply pw_below_drewN | apply below_drew1 | refine below_set ?_ qi1.out) | exact HB.out)⟩⟩
            ·rw [if_neg c42] at H
             exact absurd H (by simp)
           ·rw [if_neg c41] at H
            exact absurd H (by simp)
        ·rw [if_neg c39] at H
         have c39b0 : decide (x5_2 < (l0_0.length : Int)) = false := decide_eq_false c39
         clear c39
         have H' := Aside0.mk H
         clear H
         have hcz51_0 : wr.cell? ⟨gb366, 0, none⟩ = some (.slice A0_0 l0_0.length c0_0) := (blk_cell qj1.out 0).trans rfl
         have hcz51_1 : wr.cell? ⟨gb366, 1, none⟩ = some (.slice A0_1 l0_1.length c0_1) := (blk_cell qj1.out 1).trans rfl
         have hfz51_0 := blk_frozen qj1.out 0
         have hfz51_1 := blk_frozen qj1.out 1
         go_wp2
         go_loopg [7] k2 (fun kq v7 w' => ∃ (x7_3 : Int), v7 = .int .i64 x7_3 ∧ Aside0 (spec_IdlCheck.l4 kq x7_3 l0_0 l0_1 = some r) ∧ Aside0 (kq ≤ k2) ∧ Aside0 (w'.heap[gb366]? = some (.cells #[(.slice A0_0 l0_0.length c0_0), (.slice A0_1 l0_1.length c0_1)] 26 (0, 0))) ∧ Aside0 (Below w.heap.size w w'))
         case atStart => exact ⟨(0), (by first | rfl | (simp; done) | (simp [*]; done)), H', ⟨Nat.le_refl _⟩, ⟨by (with_reducible repeat (first | refine blk_drewN ?_ _ | refine blk_drew ?_ | refine blk_alloc ?_ _)); exact qj1.out⟩, ⟨by repeat (first | (with_reducible first | exact HB.out | apply below_alloc | apply pw_below_drewN | apply below_drew1 | refine below_set ?_ qi1.out) | exact HB.out)⟩⟩
         case round =>
          clear H'
          try clear c1
          try clear c2
          try clear p2
          try clear c3
          try clear p3
          try clear q3
          try clear hx3
          try clear c4
          try clear p6
          try clear c16
          try clear c16b0
          try clear c18
          try clear c19
          try clear c20
          try clear c20b0
          try clear c21
          try clear c22
          try clear c23
          try clear c28
          try clear c28b0
          try clear c28b1
          try clear c36
          try clear p36
          try clear q36
          try clear hx36
          try clear c37
          try clear p37
          try clear q37
          try clear hx37
          try clear c39
          try clear c39b0
          try clear c41
          try clear c41b0
          try clear c42
          try clear c42b0
          try clear c43
          try clear c43b0
          try clear c45
          try clear c45b0
          try clear hcz33_0
          try clear hcz33_1
          try clear hcz37_0
          try clear hcz37_1
          try clear hcz38_0
          try clear hcz38_1
          try clear hcz40_0
          try clear hcz40_1
          try clear hcz46_0
          try clear hcz46_1
          try clear hcz48_0
          try clear hcz48_1
          try clear hcz50_0
          try clear hcz50_1
          try clear hcz51_0
          try clear hcz51_1
          try clear hfz33_0
          try clear hfz33_1
          try clear hfz37_0
          try clear hfz37_1
          try clear hfz38_0
          try clear hfz38_1
          try clear hfz40_0
          try clear hfz40_1
          try clear hfz46_0
          try clear hfz46_1
          try clear hfz48_0
          try clear hfz48_1
          try clear hfz50_0
          try clear hfz50_1
          try clear hfz51_0
          try clear hfz51_1
          try clear qi
          try clear qb1
          try clear qw
          try clear qa1
          try clear qe
          try clear qs
          try clear qn
          try clear qj
          try clear qm
          try clear qd1
          try clear qf1
          try clear qc
          try clear qz
          try clear ql
          try clear qt
          try clear qg
          try clear qk
          try clear qb
          try clear qp
          try clear qh
          try clear qr
          try clear qc1
          try clear p2
          try clear p3
          try clear p36
          try clear p369
          try clear p37
          try clear p370
          try clear p371
          try clear p373
          try clear p374
          try clear p376
          try clear p377
          try clear p6
          try clear q3
          try clear q36
          try clear q369
          try clear q37
          try clear q370
          try clear q371
          try clear q373
          try clear q374
          try clear q376
          try clear q377
          obtain ⟨x7_3, rfl, HA, HK3, qj1, HB⟩ := hrel
          cases gk with
          | zero => exact absurd HA.out (by simp [spec_IdlCheck.l4])
          | succ k3 =>
           have H := HA.out
           clear HA
           simp only [spec_IdlCheck.l4] at H
           by_cases c52 : x7_3 < (l0_0.length : Int)
           ·rw [if_pos c52] at H
            have c52b0 : decide (x7_3 < (l0_0.length : Int)) = true := decide_eq_true c52
            clear c52
            have H' := Aside0.mk H
            clear H
            have hcz53_0 : wr.cell? ⟨gb366, 0, none⟩ = some (.slice A0_0 l0_0.length c0_0) := (blk_cell qj1.out 0).trans rfl
            have hcz53_1 : wr.cell? ⟨gb366, 1, none⟩ = some (.slice A0_1 l0_1.length c0_1) := (blk_cell qj1.out 1).trans rfl
            have hfz53_0 := blk_frozen qj1.out 0
            have hfz53_1 := blk_frozen qj1.out 1
            go_wp2
            go_loopg [8] k3 (fun kq v8 w' => ∃ (x8_4 : Int), v8 = .int .i64 x8_4 ∧ Aside0 (spec_IdlCheck.l5 kq x7_3 x8_4 l0_0 l0_1 = some r) ∧ Aside0 (kq ≤ k3) ∧ Aside0 (w'.heap[gb366]? = some (.cells #[(.slice A0_0 l0_0.length c0_0), (.slice A0_1 l0_1.length c0_1)] 26 (0, 0))) ∧ Aside0 (Below w.heap.size w w'))
            case atStart => exact ⟨(0), (by first | rfl | (simp; done) | (simp [*]; done)), H', ⟨Nat.le_refl _⟩, ⟨by (with_reducible repeat (first | refine blk_drewN ?_ _ | refine blk_drew ?_ | refine blk_alloc ?_ _)); exact qj1.out⟩, ⟨by repeat (first | (with_reducible first | exact HB.out | apply below_alloc | apply pw_below_drewN | apply below_drew1 | refine below_set ?_ qi1.out) | exact HB.out)⟩⟩
            case round =>
             clear H'
             try clear c1
             try clear c2
             try clear p2
             try clear c3
             try clear p3
             try clear q3
             try clear hx3
             try clear c4
             try clear c5
             try clear p6
             try clear c16
             try clear c16b0
             try clear c18
             try clear c19
             try clear c20
             try clear c20b0
             try clear c21
             try clear c22
             try clear c23
             try clear c28
             try clear c28b0
             try clear c28b1
             try clear c36
             try clear p36
             try clear q36
             try clear hx36
             try clear c37
             try clear p37
             try clear q37
             try clear hx37
             try clear c39
             try clear c39b0
             try clear c41
             try clear c41b0
             try clear c42
             try clear c42b0
             try clear c43
             try clear c43b0
             try clear c45
             try clear c45b0
             try clear c52
             try clear c52b0
             try clear hcz33_0
             try clear hcz33_1
             try clear hcz37_0
             try clear hcz37_1
             try clear hcz38_0
             try clear hcz38_1
             try clear hcz40_0
             try clear hcz40_1
             try clear hcz46_0
             try clear hcz46_1
             try clear hcz48_0
             try clear hcz48_1
             try clear hcz50_0
             try clear hcz50_1
             try clear hcz51_0
             try clear hcz51_1
             try clear hcz53_0
             try clear hcz53_1
             try clear hfz33_0
             try clear hfz33_1
             try clear hfz37_0
             try clear hfz37_1
             try clear hfz38_0
             try clear hfz38_1
             try clear hfz40_0
             try clear hfz40_1
             try clear hfz46_0
             try clear hfz46_1
             try clear hfz48_0
             try clear hfz48_1
             try clear hfz50_0
             try clear hfz50_1
             try clear hfz51_0
             try clear hfz51_1
             try clear hfz53_0
             try clear hfz53_1
             try clear qi
             try clear qb1
             try clear qw
             try clear qa1
             try clear qe
             try clear qs
             try clear qn
             try clear qj
             try clear qm
             try clear qd1
             try clear qf1
             try clear qc
             try clear qz
             try clear ql
             try clear qt
             try clear qg
             try clear qk
             try clear qb
             try clear qp
             try clear qh
             try clear qr
             try clear qc1
             try clear p2
             try clear p3
             try clear p36
             try clear p369
             try clear p37
             try clear p370
             try clear p371
             try clear p373
             try clear p374
             try clear p376
             try clear p377
             try clear p6
             try clear q3
             try clear q36
             try clear q369
             try clear q37
             try clear q370
             try clear q371
             try clear q373
             try clear q374
             try clear q376
             try clear q377
             obtain ⟨x8_4, rfl, HA, HK4, qj1, HB⟩ := hrel
             cases gk with
             | zero => exact absurd HA.out (by simp [spec_IdlCheck.l5])
             | succ k4 =>
              have H := HA.out
              clear HA
              simp only [spec_IdlCheck.l5] at H
              by_cases c54 : 0 ≤ x7_3
              ·rw [if_pos c54] at H
               have c54b0 : decide (0 ≤ x7_3) = true := decide_eq_true c54
               clear c54
               by_cases c55 : x7_3 < (l0_0.length : Int)
               ·rw [if_pos c55] at H
                have c55b0 : decide (x7_3 < (l0_0.length : Int)) = true := decide_eq_true c55
                clear c55
                by_cases c56 : x8_4 < (((rd_T32 l0_0 x7_3).f1).length : Int)
                ·rw [if_pos c56] at H
                 have c56b0 : decide (x8_4 < (((rd_T32 l0_0 x7_3).f1).length : Int)) = true := decide_eq_true c56
                 clear c56
                 by_cases c57 : 0 ≤ x8_4
                 ·rw [if_pos c57] at H
                  have c57b0 : decide (0 ≤ x8_4) = true := decide_eq_true c57
                  clear c57
                  replace H := Option.bind_eq_some_iff.mp H
                  obtain ⟨t382, A580, H⟩ := H
                  replace H : (if t382 = true then (spec_IdlCheck.l5 k4 x7_3 (wrap64 (x8_4 + 1)) l0_0 l0_1) else (some 5)) = some r := H
                  have A58 := Aside0.mk A580
                  clear A580
                  by_cases c59 : t382 = true
                  ·subst c59
                   have H1 : (spec_IdlCheck.l5 k4 x7_3 (wrap64 (x8_4 + 1)) l0_0 l0_1) = some r := by rw [if_pos rfl] at H; exact H
                   clear H
                   have H := H1
                   clear H1
                   have H' := Aside0.mk H
                   clear H
                   have hcz60_0 : wr.cell? ⟨gb366, 0, none⟩ = some (.slice A0_0 l0_0.length c0_0) := (blk_cell qj1.out 0).trans rfl
                   have hcz60_1 : wr.cell? ⟨gb366, 1, none⟩ = some (.slice A0_1 l0_1.length c0_1) := (blk_cell qj1.out 1).trans rfl
                   have hfz60_0 := blk_frozen qj1.out 0
                   have hfz60_1 := blk_frozen qj1.out 1
                   have p379 : 0 ≤ (x7_3 : Int) := of_decide_eq_true (by first | (with_reducible assumption) | assumption)
                   have q379 : x7_3 < (l0_0.length : Int) := of_decide_eq_true (by first | (with_reducible assumption) | assumption)
                   obtain ⟨ad379, A379_1, c379_1, e379, qg1, qa, hl379_1, hi379_1⟩ := at_T32 HR0_0.out x7_3 p379 q379
                   cases e379
                   replace qg1 := (HB.out.cell (World.block_lt_of_cell? w _ qg1)).trans qg1
                   replace qa := (HB.out.cell (World.block_lt_of_cell? w _ qa)).trans qa
                   have HR379_1 := Aside0.mk hi379_1
                   have HC379_1 := Aside0.mk hl379_1
                   clear hi379_1 hl379_1
                   replace p379 := eq_true p379
                   replace q379 := eq_true q379
                   try go_wp2
                   have n0_ := Aside0.mk (blk_drew qj1.out)
                   have n1_ := Aside0.mk (below_drew1 HB.out)
                   clear qj1
                   clear HB
                   have qj1 := n0_
                   have HB := n1_
                   clear n0_ n1_
                   have p380 : 0 ≤ (x7_3 : Int) := of_decide_eq_true (by first | (with_reducible assumption) | assumption)
                   have q380 : x7_3 < (l0_0.length : Int) := of_decide_eq_true (by first | (with_reducible assumption) | assumption)
                   obtain ⟨ad380, A380_1, c380_1, e380, qv, qq, hl380_1, hi380_1⟩ := at_T32 HR0_0.out x7_3 p380 q380
                   have hw380_1 := qq
                   have hw380_0 := qv
                   obtain rfl : ad379 = ad380 := (by injection e380)
                   replace qv := (HB.out.cell (World.block_lt_of_cell? w _ qv)).trans qv
                   replace qq := (HB.out.cell (World.block_lt_of_cell? w _ qq)).trans qq
                   have HR380_1 := Aside0.mk hi380_1
                   have HC380_1 := Aside0.mk hl380_1
                   clear hi380_1 hl380_1
                   replace p380 := eq_true p380
                   replace q380 := eq_true q380
                   have p381 : 0 ≤ (x8_4 : Int) := of_decide_eq_true (by first | (with_reducible assumption) | assumption)
                   have q381 : x8_4 < (((rd_T32 l0_0 x7_3).f1).length : Int) := of_decide_eq_true (by first | (with_reducible assumption) | assumption)
                   obtain ⟨ad381, e381, qo, qx, qh1, qd, qe1, qy⟩ := at_T36 HR380_1.out x8_4 p381 q381
                   have hw381_5 := qy
                   have hw381_4 := qe1
                   have hw381_3 := qd
                   have hw381_2 := qh1
                   have hw381_1 := qx
                   have hw381_0 := qo
                   cases e381
                   replace qo := (HB.out.cell (World.block_lt_of_cell? w _ qo)).trans qo
                   replace qx := (HB.out.cell (World.block_lt_of_cell? w _ qx)).trans qx
                   replace qh1 := (HB.out.cell (World.block_lt_of_cell? w _ qh1)).trans qh1
                   replace qd := (HB.out.cell (World.block_lt_of_cell? w _ qd)).trans qd
                   replace qe1 := (HB.out.cell (World.block_lt_of_cell? w _ qe1)).trans qe1
                   replace qy := (HB.out.cell (World.block_lt_of_cell? w _ qy)).trans qy
                   replace p381 := eq_true p381
                   replace q381 := eq_true q381
                   refine start_ (n := 12) (S := fun w' => w'.cell? ⟨gb366, 0, none⟩ = some (.slice (some ad379) l0_0.length c0_0) ∧ w'.cell? ⟨gb366, 1, none⟩ = some (.slice A0_1 l0_1.length c0_1) ∧ w'.cell? (ad379.add ((x7_3).toNat * 2)) = some (.string ((rd_T32 l0_0 x7_3).f0)) ∧ w'.cell? ⟨(ad379.add ((x7_3).toNat * 2)).block, (ad379.add ((x7_3).toNat * 2)).off + 1, none⟩ = some (.slice (some ad381) ((rd_T32 l0_0 x7_3).f1).length c380_1) ∧ w'.cell? (ad381.add ((x8_4).toNat * 6)) = some (.string ((rd_T36 ((rd_T32 l0_0 x7_3).f1) x8_4).f0)) ∧ w'.cell? ⟨(ad381.add ((x8_4).toNat * 6)).block, (ad381.add ((x8_4).toNat * 6)).off + 1, none⟩ = some (.int .i64 ((rd_T36 ((rd_T32 l0_0 x7_3).f1) x8_4).f1)) ∧ w'.cell? ⟨(ad381.add ((x8_4).toNat * 6)).block, (ad381.add ((x8_4).toNat * 6)).off + 2, none⟩ = some (.string ((rd_T36 ((rd_T32 l0_0 x7_3).f1) x8_4).f2.f0)) ∧ w'.cell? ⟨(ad381.add ((x8_4).toNat * 6)).block, (ad381.add ((x8_4).toNat * 6)).off + 3, none⟩ = some (.bool ((rd_T36 ((rd_T32 l0_0 x7_3).f1) x8_4).f2.f1)) ∧ w'.cell? ⟨(ad381.add ((x8_4).toNat * 6)).block, (ad381.add ((x8_4).toNat * 6)).off + 4, none⟩ = some (.bool ((rd_T36 ((rd_T32 l0_0 x7_3).f1) x8_4).f3)) ∧ w'.cell? ⟨(ad381.add ((x8_4).toNat * 6)).block, (ad381.add ((x8_4).toNat * 6)).off + 5, none⟩ = some (.int .i64 ((rd_T36 ((rd_T32 l0_0 x7_3).f1) x8_4).f4))) (ds := []) #[false, false, false, false, false, false, false, false, false, false, false, false] (by kernel_rfl) rfl rfl ⟨(blk_cell qj1.out 0).trans rfl, (blk_cell qj1.out 1).trans rfl, ((HB.out.cell (World.block_lt_of_cell? w _ hw380_0)).trans hw380_0), ((HB.out.cell (World.block_lt_of_cell? w _ hw380_1)).trans hw380_1), ((HB.out.cell (World.block_lt_of_cell? w _ hw381_0)).trans hw381_0), ((HB.out.cell (World.block_lt_of_cell? w _ hw381_1)).trans hw381_1), ((HB.out.cell (World.block_lt_of_cell? w _ hw381_2)).trans hw381_2), ((HB.out.cell (World.block_lt_of_cell? w _ hw381_3)).trans hw381_3), ((HB.out.cell (World.block_lt_of_cell? w _ hw381_4)).trans hw381_4), ((HB.out.cell (World.block_lt_of_cell? w _ hw381_5)).trans hw381_5)⟩ (fun hHeld => ?_); refine with_tabW spec_IdlCheck.tab27 spec_IdlCheck.bits27 (fun HT_ HW_ => ?_)
                   generalize wr.drew = w61 at qj1 HB HR380_1 qv qq qo qx qh1 qd qe1 qy hHeld ⊢
                   refine pure_ (i := 1) (N := some 107) (v := ?_) (a' := ?_) #[false, true, false, false, false, false, false, false, false, false, false, false] rfl rfl (any_of HT_.out (by kernel_rfl)) (fun _ _ _ h => h) (Or.inl ⟨by rfl, ?_⟩) ?_ ?_
                   rotate_left
                   ·intro w'
                    go_simp
                    with_reducible rfl
                   rotate_left
                   ·simp only [Act.put, List.setIfInBounds_toArray, List.set_cons_zero, List.set_cons_succ, i64_w, i32_w]
                    rfl
                   refine pure_ (i := 3) (N := some 109) (v := ?_) (a' := ?_) #[false, true, false, true, false, false, false, false, false, false, false, false] rfl rfl (any_of HT_.out (by kernel_rfl)) (fun _ _ _ h => h) (Or.inl ⟨by rfl, ?_⟩) ?_ ?_
                   rotate_left
                   ·intro w'
                    go_simp
                    with_reducible rfl
                   rotate_left
                   ·simp only [Act.put, List.setIfInBounds_toArray, List.set_cons_zero, List.set_cons_succ, i64_w, i32_w]
                    rfl
                   refine pure_ (i := 7) (N := some 113) (v := ?_) (a' := ?_) #[false, true, false, true, false, false, false, true, false, false, false, false] rfl rfl (any_of HT_.out (by kernel_rfl)) (fun _ _ _ h => h) (Or.inl ⟨by rfl, ?_⟩) ?_ ?_
                   rotate_left
                   ·intro w'
                    go_simp
                    with_reducible rfl
                   rotate_left
                   ·simp only [Act.put, List.setIfInBounds_toArray, List.set_cons_zero, List.set_cons_succ, i64_w, i32_w]
                    rfl
                   refine take_ (i := 0) (N := some 106) (v := ?_) (a' := ?_) #[true, true, false, true, false, false, false, true, false, false, false, false] rfl rfl (take_ofW HT_.out HW_.out (by kernel_rfl)) (fun _ _ _ h => h) (Or.inl ⟨by rfl, ?_⟩) hHeld ?_ ?_
                   rotate_left
                   ·rintro w' ⟨s0, s1, s2, s3, s4, s5, s6, s7, s8, s9⟩
                    go_simp
                    with_reducible rfl
                   rotate_left
                   ·simp only [Act.put, List.setIfInBounds_toArray, List.set_cons_zero, List.set_cons_succ, i64_w, i32_w]
                    rfl
                   refine take_ (i := 2) (N := some 108) (v := ?_) (a' := ?_) #[true, true, true, true, false, false, false, true, false, false, false, false] rfl rfl (take_ofW HT_.out HW_.out (by kernel_rfl)) (fun _ _ _ h => h) (Or.inl ⟨by rfl, ?_⟩) hHeld ?_ ?_
                   rotate_left
                   ·rintro w' ⟨s0, s1, s2, s3, s4, s5, s6, s7, s8, s9⟩
                    go_simp
                    with_reducible rfl
                   rotate_left
                   ·simp only [Act.put, List.setIfInBounds_toArray, List.set_cons_zero, List.set_cons_succ, i64_w, i32_w]
                    rfl
                   refine pure_ (i := 4) (N := some 110) (v := ?_) (a' := ?_) #[true, true, true, true, true, false, false, true, false, false, false, false] rfl rfl (any_of HT_.out (by kernel_rfl)) (fun _ _ _ h => h) (Or.inl ⟨by rfl, ?_⟩) ?_ ?_
                   rotate_left
                   ·intro w'
                    go_simp
                    with_reducible rfl
                   rotate_left
                   ·simp only [Act.put, List.setIfInBounds_toArray, List.set_cons_zero, List.set_cons_succ, i64_w, i32_w]
                    rfl
                   refine pure_ (i := 5) (N := some 111) (v := ?_) (a' := ?_) #[true, true, true, true, true, true, false, true, false, false, false, false] rfl rfl (any_of HT_.out (by kernel_rfl)) (fun _ _ _ h => h) (Or.inl ⟨by rfl, ?_⟩) ?_ ?_
                   rotate_left
                   ·intro w'
                    go_simp
                    with_reducible rfl
                   rotate_left
                   ·simp only [Act.put, List.setIfInBounds_toArray, List.set_cons_zero, List.set_cons_succ, i64_w, i32_w]
                    rfl
                   refine take_ (i := 6) (N := some 112) (v := ?_) (a' := ?_) #[true, true, true, true, true, true, true, true, false, false, false, false] rfl rfl (take_ofW HT_.out HW_.out (by kernel_rfl)) (fun _ _ _ h => h) (Or.inl ⟨by rfl, ?_⟩) hHeld ?_ ?_
                   rotate_left
                   ·rintro w' ⟨s0, s1, s2, s3, s4, s5, s6, s7, s8, s9⟩
                    go_simp
                    with_reducible rfl
                   rotate_left
                   ·simp only [Act.put, List.setIfInBounds_toArray, List.set_cons_zero, List.set_cons_succ, i64_w, i32_w]
                    rfl
                   refine pure_ (i := 8) (N := some 114) (v := ?_) (a' := ?_) #[true, true, true, true, true, true, true, true, true, false, false, false] rfl rfl (any_of HT_.out (by kernel_rfl)) (fun _ _ _ h => h) (Or.inl ⟨by rfl, ?_⟩) ?_ ?_
                   rotate_left
                   ·intro w'
                    go_simp
                    with_reducible rfl
                   rotate_left
                   ·simp only [Act.put, List.setIfInBounds_toArray, List.set_cons_zero, List.set_cons_succ, i64_w, i32_w]
                    rfl
                   refine take_ (i := 9) (N := some 115) (v := ?_) (a' := ?_) #[true, true, true, true, true, true, true, true, true, true, false, false] rfl rfl (take_ofW HT_.out HW_.out (by kernel_rfl)) (fun _ _ _ h => h) (Or.inl ⟨by rfl, ?_⟩) hHeld ?_ ?_
                   rotate_left
                   ·rintro w' ⟨s0, s1, s2, s3, s4, s5, s6, s7, s8, s9⟩
                    go_simp
                    with_reducible rfl
                   rotate_left
                   ·simp only [Act.put, List.setIfInBounds_toArray, List.set_cons_zero, List.set_cons_succ, i64_w, i32_w]
                    rfl
                   refine one_ (i := 10) (N := some 116) #[true, true, true, true, true, true, true, true, true, true, true, false] rfl rfl (one_of HT_.out (by kernel_rfl)) (by decide) (fun K hK => ?_)
                   refine goes_ Tryd.func24 (by kernel_rfl) rfl #[.agg #[.slice (some ad379) l0_0.length c0_0, .slice A0_1 l0_1.length c0_1], .agg #[.string ((rd_T36 ((rd_T32 l0_0 x7_3).f1) x8_4).f0), .int .i64 ((rd_T36 ((rd_T32 l0_0 x7_3).f1) x8_4).f1), .string ((rd_T36 ((rd_T32 l0_0 x7_3).f1) x8_4).f2.f0), .bool ((rd_T36 ((rd_T32 l0_0 x7_3).f1) x8_4).f2.f1), .bool ((rd_T36 ((rd_T32 l0_0 x7_3).f1) x8_4).f3), .int .i64 ((rd_T36 ((rd_T32 l0_0 x7_3).f1) x8_4).f4)]] (by rfl) rfl rfl (by (try simp only [List.map_toArray, List.map_cons, List.map_nil]); first | done | rfl | (simp only [List.length_drop, List.length_take]; rfl)) ?_
                   with_reducible refine (spec_l9Else.calls k4 _ _ l0_0 _ _ l0_1 ((rd_T36 ((rd_T32 l0_0 x7_3).f1) x8_4).f0) ((rd_T36 ((rd_T32 l0_0 x7_3).f1) x8_4).f1) ((rd_T36 ((rd_T32 l0_0 x7_3).f1) x8_4).f2.f0) ((rd_T36 ((rd_T32 l0_0 x7_3).f1) x8_4).f2.f1) ((rd_T36 ((rd_T32 l0_0 x7_3).f1) x8_4).f3) ((rd_T36 ((rd_T32 l0_0 x7_3).f1) x8_4).f4) true _ ?side1 ?side2 ?side3 ?side4 A58.out).mono ?_
                   (case side1 => repeat (first | exact (Kd.C_below HR0_0.out HB.out) | (with_reducible refine Kd.C_alloc ?_ _) | (with_reducible refine Kd.C_drewN ?_ _) | (with_reducible refine Kd.C_drew ?_)))
                   (case side2 => exact HC0_0.out)
                   (case side3 => repeat (first | exact (Kd.C_below HR0_1.out HB.out) | (with_reducible refine Kd.C_alloc ?_ _) | (with_reducible refine Kd.C_drewN ?_ _) | (with_reducible refine Kd.C_drew ?_)))
                   (case side4 => exact HC0_1.out)
                   rintro e w62 ⟨rfl, hb⟩
                   refine ⟨_, rfl, ?_⟩
                   have n0_ := Aside0.mk (blk_below (g := gb366) (o := .cells #[.slice (some ad379) l0_0.length c0_0, .slice A0_1 l0_1.length c0_1] 26 (0, 0)) (by (with_reducible repeat (first | refine blk_drewN ?_ _ | refine blk_drew ?_ | refine blk_alloc ?_ _)); exact qj1.out) hb)
                   have n1_ := Aside0.mk (below_step (by repeat (first | (with_reducible first | exact HB.out | apply below_alloc | apply pw_below_drewN | apply below_drew1 | refine below_set ?_ qi1.out) | exact HB.out)) hb)
                   clear qj1
                   clear HB
                   have qj1 := n0_
                   have HB := n1_
                   clear n0_ n1_
                   (try clear hb)
                   (try clear hb2)
                   (try clear hk)
                   (try clear hi)
                   refine hK.out _ _ ⟨(blk_cell qj1.out 0).trans rfl, (blk_cell qj1.out 1).trans rfl, ((HB.out.cell (World.block_lt_of_cell? w _ hw380_0)).trans hw380_0), ((HB.out.cell (World.block_lt_of_cell? w _ hw380_1)).trans hw380_1), ((HB.out.cell (World.block_lt_of_cell? w _ hw381_0)).trans hw381_0), ((HB.out.cell (World.block_lt_of_cell? w _ hw381_1)).trans hw381_1), ((HB.out.cell (World.block_lt_of_cell? w _ hw381_2)).trans hw381_2), ((HB.out.cell (World.block_lt_of_cell? w _ hw381_3)).trans hw381_3), ((HB.out.cell (World.block_lt_of_cell? w _ hw381_4)).trans hw381_4), ((HB.out.cell (World.block_lt_of_cell? w _ hw381_5)).trans hw381_5)⟩ (fun hHeld => ?_)
                   clear hK K
                   refine norm_ (a' := ?_) ?_ ?_
                   rotate_left
                   ·show Act.put _ (some 116) _ = _
                    simp only [Act.put, List.setIfInBounds_toArray, List.set_cons_zero, List.set_cons_succ, i64_w, i32_w]
                    rfl
                   refine pure_ (i := 11) (N := some 117) (v := ?_) (a' := ?_) #[true, true, true, true, true, true, true, true, true, true, true, true] rfl rfl (any_of HT_.out (by kernel_rfl)) (fun _ _ _ h => h) (Or.inl ⟨by rfl, ?_⟩) ?_ ?_
                   rotate_left
                   ·intro w'
                    go_simp
                    with_reducible rfl
                   rotate_left
                   ·simp only [Act.put, List.setIfInBounds_toArray, List.set_cons_zero, List.set_cons_succ, i64_w, i32_w]
                    rfl
                   refine done_ (done_of HT_.out (by kernel_rfl)) ?_
                   try go_wp2
                   go_roundg k4
                   case measure => have := HK1.out; have := HK2.out; have := HK3.out; have := HK4.out; omega
                   case rel => exact ⟨(wrap64 (x8_4 + 1)), (by first | rfl | (simp; done) | (simp [*]; done)), H', ⟨by have := HK1.out; have := HK2.out; have := HK3.out; have := HK4.out; omega⟩, ⟨by (with_reducible repeat (first | refine blk_drewN ?_ _ | refine blk_drew ?_ | refine blk_alloc ?_ _)); exact qj1.out⟩, ⟨by repeat (first | (with_reducible first | exact HB.out | apply below_alloc | apply pw_below_drewN | apply below_drew1 | refine below_set ?_ qi1.out) | exact HB.out)⟩⟩
                  ·replace c59 := Bool.eq_false_iff.mpr c59
                   subst c59
                   have H1 : (some 5) = some r := by rw [if_neg (show ¬ (false = true) by decide)] at H; exact H
                   clear H
                   have H := H1
                   clear H1
                   obtain rfl := Option.some.inj H
                   have hcz63_0 : wr.cell? ⟨gb366, 0, none⟩ = some (.slice A0_0 l0_0.length c0_0) := (blk_cell qj1.out 0).trans rfl
                   have hcz63_1 : wr.cell? ⟨gb366, 1, none⟩ = some (.slice A0_1 l0_1.length c0_1) := (blk_cell qj1.out 1).trans rfl
                   have hfz63_0 := blk_frozen qj1.out 0
                   have hfz63_1 := blk_frozen qj1.out 1
                   have p379 : 0 ≤ (x7_3 : Int) := of_decide_eq_true (by first | (with_reducible assumption) | assumption)
                   have q379 : x7_3 < (l0_0.length : Int) := of_decide_eq_true (by first | (with_reducible assumption) | assumption)
                   obtain ⟨ad379, A379_1, c379_1, e379, qg1, qa, hl379_1, hi379_1⟩ := at_T32 HR0_0.out x7_3 p379 q379
                   cases e379
                   replace qg1 := (HB.out.cell (World.block_lt_of_cell? w _ qg1)).trans qg1
                   replace qa := (HB.out.cell (World.block_lt_of_cell? w _ qa)).trans qa
                   have HR379_1 := Aside0.mk hi379_1
                   have HC379_1 := Aside0.mk hl379_1
                   clear hi379_1 hl379_1
                   replace p379 := eq_true p379
                   replace q379 := eq_true q379
                   try go_wp2
                   have n0_ := Aside0.mk (blk_drew qj1.out)
                   have n1_ := Aside0.mk (below_drew1 HB.out)
                   clear qj1
                   clear HB
                   have qj1 := n0_
                   have HB := n1_
                   clear n0_ n1_
                   have p380 : 0 ≤ (x7_3 : Int) := of_decide_eq_true (by first | (with_reducible assumption) | assumption)
                   have q380 : x7_3 < (l0_0.length : Int) := of_decide_eq_true (by first | (with_reducible assumption) | assumption)
                   obtain ⟨ad380, A380_1, c380_1, e380, qv, qq, hl380_1, hi380_1⟩ := at_T32 HR0_0.out x7_3 p380 q380
                   have hw380_1 := qq
                   have hw380_0 := qv
                   obtain rfl : ad379 = ad380 := (by injection e380)
                   replace qv := (HB.out.cell (World.block_lt_of_cell? w _ qv)).trans qv
                   replace qq := (HB.out.cell (World.block_lt_of_cell? w _ qq)).trans qq
                   have HR380_1 := Aside0.mk hi380_1
                   have HC380_1 := Aside0.mk hl380_1
                   clear hi380_1 hl380_1
                   replace p380 := eq_true p380
                   replace q380 := eq_true q380
                   have p381 : 0 ≤ (x8_4 : Int) := of_decide_eq_true (by first | (with_reducible assumption) | assumption)
                   have q381 : x8_4 < (((rd_T32 l0_0 x7_3).f1).length : Int) := of_decide_eq_true (by first | (with_reducible assumption) | assumption)
                   obtain ⟨ad381, e381, qo, qx, qh1, qd, qe1, qy⟩ := at_T36 HR380_1.out x8_4 p381 q381
                   have hw381_5 := qy
                   have hw381_4 := qe1
                   have hw381_3 := qd
                   have hw381_2 := qh1
                   have hw381_1 := qx
                   have hw381_0 := qo
                   cases e381
                   replace qo := (HB.out.cell (World.block_lt_of_cell? w _ qo)).trans qo
                   replace qx := (HB.out.cell (World.block_lt_of_cell? w _ qx)).trans qx
                   replace qh1 := (HB.out.cell (World.block_lt_of_cell? w _ qh1)).trans qh1
                   replace qd := (HB.out.cell (World.block_lt_of_cell? w _ qd)).trans qd
                   replace qe1 := (HB.out.cell (World.block_lt_of_cell? w _ qe1)).trans qe1
                   replace qy := (HB.out.cell (World.block_lt_of_cell? w _ qy)).trans qy
                   replace p381 := eq_true p381
                   replace q381 := eq_true q381
                   refine start_ (n := 12) (S := fun w' => w'.cell? ⟨gb366, 0, none⟩ = some (.slice (some ad379) l0_0.length c0_0) ∧ w'.cell? ⟨gb366, 1, none⟩ = some (.slice A0_1 l0_1.length c0_1) ∧ w'.cell? (ad379.add ((x7_3).toNat * 2)) = some (.string ((rd_T32 l0_0 x7_3).f0)) ∧ w'.cell? ⟨(ad379.add ((x7_3).toNat * 2)).block, (ad379.add ((x7_3).toNat * 2)).off + 1, none⟩ = some (.slice (some ad381) ((rd_T32 l0_0 x7_3).f1).length c380_1) ∧ w'.cell? (ad381.add ((x8_4).toNat * 6)) = some (.string ((rd_T36 ((rd_T32 l0_0 x7_3).f1) x8_4).f0)) ∧ w'.cell? ⟨(ad381.add ((x8_4).toNat * 6)).block, (ad381.add ((x8_4).toNat * 6)).off + 1, none⟩ = some (.int .i64 ((rd_T36 ((rd_T32 l0_0 x7_3).f1) x8_4).f1)) ∧ w'.cell? ⟨(ad381.add ((x8_4).toNat * 6)).block, (ad381.add ((x8_4).toNat * 6)).off + 2, none⟩ = some (.string ((rd_T36 ((rd_T32 l0_0 x7_3).f1) x8_4).f2.f0)) ∧ w'.cell? ⟨(ad381.add ((x8_4).toNat * 6)).block, (ad381.add ((x8_4).toNat * 6)).off + 3, none⟩ = some (.bool ((rd_T36 ((rd_T32 l0_0 x7_3).f1) x8_4).f2.f1)) ∧ w'.cell? ⟨(ad381.add ((x8_4).toNat * 6)).block, (ad381.add ((x8_4).toNat * 6)).off + 4, none⟩ = some (.bool ((rd_T36 ((rd_T32 l0_0 x7_3).f1) x8_4).f3)) ∧ w'.cell? ⟨(ad381.add ((x8_4).toNat * 6)).block, (ad381.add ((x8_4).toNat * 6)).off + 5, none⟩ = some (.int .i64 ((rd_T36 ((rd_T32 l0_0 x7_3).f1) x8_4).f4))) (ds := []) #[false, false, false, false, false, false, false, false, false, false, false, false] (by kernel_rfl) rfl rfl ⟨(blk_cell qj1.out 0).trans rfl, (blk_cell qj1.out 1).trans rfl, ((HB.out.cell (World.block_lt_of_cell? w _ hw380_0)).trans hw380_0), ((HB.out.cell (World.block_lt_of_cell? w _ hw380_1)).trans hw380_1), ((HB.out.cell (World.block_lt_of_cell? w _ hw381_0)).trans hw381_0), ((HB.out.cell (World.block_lt_of_cell? w _ hw381_1)).trans hw381_1), ((HB.out.cell (World.block_lt_of_cell? w _ hw381_2)).trans hw381_2), ((HB.out.cell (World.block_lt_of_cell? w _ hw381_3)).trans hw381_3), ((HB.out.cell (World.block_lt_of_cell? w _ hw381_4)).trans hw381_4), ((HB.out.cell (World.block_lt_of_cell? w _ hw381_5)).trans hw381_5)⟩ (fun hHeld => ?_); refine with_tabW spec_IdlCheck.tab27 spec_IdlCheck.bits27 (fun HT_ HW_ => ?_)
                   generalize wr.drew = w64 at qj1 HB HR380_1 qv qq qo qx qh1 qd qe1 qy hHeld ⊢
                   refine pure_ (i := 1) (N := some 107) (v := ?_) (a' := ?_) #[false, true, false, false, false, false, false, false, false, false, false, false] rfl rfl (any_of HT_.out (by kernel_rfl)) (fun _ _ _ h => h) (Or.inl ⟨by rfl, ?_⟩) ?_ ?_
                   rotate_left
                   ·intro w'
                    go_simp
                    with_reducible rfl
                   rotate_left
                   ·simp only [Act.put, List.setIfInBounds_toArray, List.set_cons_zero, List.set_cons_succ, i64_w, i32_w]
                    rfl
                   refine pure_ (i := 3) (N := some 109) (v := ?_) (a' := ?_) #[false, true, false, true, false, false, false, false, false, false, false, false] rfl rfl (any_of HT_.out (by kernel_rfl)) (fun _ _ _ h => h) (Or.inl ⟨by rfl, ?_⟩) ?_ ?_
                   rotate_left
                   ·intro w'
                    go_simp
                    with_reducible rfl
                   rotate_left
                   ·simp only [Act.put, List.setIfInBounds_toArray, List.set_cons_zero, List.set_cons_succ, i64_w, i32_w]
                    rfl
                   refine pure_ (i := 7) (N := some 113) (v := ?_) (a' := ?_) #[false, true, false, true, false, false, false, true, false, false, false, false] rfl rfl (any_of HT_.out (by kernel_rfl)) (fun _ _ _ h => h) (Or.inl ⟨by rfl, ?_⟩) ?_ ?_
                   rotate_left
                   ·intro w'
                    go_simp
                    with_reducible rfl
                   rotate_left
                   ·simp only [Act.put, List.setIfInBounds_toArray, List.set_cons_zero, List.set_cons_succ, i64_w, i32_w]
                    rfl
                   refine take_ (i := 0) (N := some 106) (v := ?_) (a' := ?_) #[true, true, false, true, false, false, false, true, false, false, false, false] rfl rfl (take_ofW HT_.out HW_.out (by kernel_rfl)) (fun _ _ _ h => h) (Or.inl ⟨by rfl, ?_⟩) hHeld ?_ ?_
                   rotate_left
                   ·rintro w' ⟨s0, s1, s2, s3, s4, s5, s6, s7, s8, s9⟩
                    go_simp
                    with_reducible rfl
                   rotate_left
                   ·simp only [Act.put, List.setIfInBounds_toArray, List.set_cons_zero, List.set_cons_succ, i64_w, i32_w]
                    rfl
                   refine take_ (i := 2) (N := some 108) (v := ?_) (a' := ?_) #[true, true, true, true, false, false, false, true, false, false, false, false] rfl rfl (take_ofW HT_.out HW_.out (by kernel_rfl)) (fun _ _ _ h => h) (Or.inl ⟨by rfl, ?_⟩) hHeld ?_ ?_
                   rotate_left
                   ·rintro w' ⟨s0, s1, s2, s3, s4, s5, s6, s7, s8, s9⟩
                    go_simp
                    with_reducible rfl
                   rotate_left
                   ·simp only [Act.put, List.setIfInBounds_toArray, List.set_cons_zero, List.set_cons_succ, i64_w, i32_w]
                    rfl
                   refine pure_ (i := 4) (N := some 110) (v := ?_) (a' := ?_) #[true, true, true, true, true, false, false, true, false, false, false, false] rfl rfl (any_of HT_.out (by kernel_rfl)) (fun _ _ _ h => h) (Or.inl ⟨by rfl, ?_⟩) ?_ ?_
                   rotate_left
                   ·intro w'
                    go_simp
                    with_reducible rfl
                   rotate_left
                   ·simp only [Act.put, List.setIfInBounds_toArray, List.set_cons_zero, List.set_cons_succ, i64_w, i32_w]
                    rfl
                   refine pure_ (i := 5) (N := some 111) (v := ?_) (a' := ?_) #[true, true, true, true, true, true, false, true, false, false, false, false] rfl rfl (any_of HT_.out (by kernel_rfl)) (fun _ _ _ h => h) (Or.inl ⟨by rfl, ?_⟩) ?_ ?_
                   rotate_left
                   ·intro w'
                    go_simp
                    with_reducible rfl
                   rotate_left
                   ·simp only [Act.put, List.setIfInBounds_toArray, List.set_cons_zero, List.set_cons_succ, i64_w, i32_w]
                    rfl
                   refine take_ (i := 6) (N := some 112) (v := ?_) (a' := ?_) #[true, true, true, true, true, true, true, true, false, false, false, false] rfl rfl (take_ofW HT_.out HW_.out (by kernel_rfl)) (fun _ _ _ h => h) (Or.inl ⟨by rfl, ?_⟩) hHeld ?_ ?_
                   rotate_left
                   ·rintro w' ⟨s0, s1, s2, s3, s4, s5, s6, s7, s8, s9⟩
                    go_simp
                    with_reducible rfl
                   rotate_left
                   ·simp only [Act.put, List.setIfInBounds_toArray, List.set_cons_zero, List.set_cons_succ, i64_w, i32_w]
                    rfl
                   refine pure_ (i := 8) (N := some 114) (v := ?_) (a' := ?_) #[true, true, true, true, true, true, true, true, true, false, false, false] rfl rfl (any_of HT_.out (by kernel_rfl)) (fun _ _ _ h => h) (Or.inl ⟨by rfl, ?_⟩) ?_ ?_
                   rotate_left
                   ·intro w'
                    go_simp
                    with_reducible rfl
                   rotate_left
                   ·simp only [Act.put, List.setIfInBounds_toArray, List.set_cons_zero, List.set_cons_succ, i64_w, i32_w]
                    rfl
                   refine take_ (i := 9) (N := some 115) (v := ?_) (a' := ?_) #[true, true, true, true, true, true, true, true, true, true, false, false] rfl rfl (take_ofW HT_.out HW_.out (by kernel_rfl)) (fun _ _ _ h => h) (Or.inl ⟨by rfl, ?_⟩) hHeld ?_ ?_
                   rotate_left
                   ·rintro w' ⟨s0, s1, s2, s3, s4, s5, s6, s7, s8, s9⟩
                    go_simp
                    with_reducible rfl
                   rotate_left
                   ·simp only [Act.put, List.setIfInBounds_toArray, List.set_cons_zero, List.set_cons_succ, i64_w, i32_w]
                    rfl
                   refine one_ (i := 10) (N := some 116) #[true, true, true, true, true, true, true, true, true, true, true, false] rfl rfl (one_of HT_.out (by kernel_rfl)) (by decide) (fun K hK => ?_)
                   refine goes_ Tryd.func24 (by kernel_rfl) rfl #[.agg #[.slice (some ad379) l0_0.length c0_0, .slice A0_1 l0_1.length c0_1], .agg #[.string ((rd_T36 ((rd_T32 l0_0 x7_3).f1) x8_4).f0), .int .i64 ((rd_T36 ((rd_T32 l0_0 x7_3).f1) x8_4).f1), .string ((rd_T36 ((rd_T32 l0_0 x7_3).f1) x8_4).f2.f0), .bool ((rd_T36 ((rd_T32 l0_0 x7_3).f1) x8_4).f2.f1), .bool ((rd_T36 ((rd_T32 l0_0 x7_3).f1) x8_4).f3), .int .i64 ((rd_T36 ((rd_T32 l0_0 x7_3).f1) x8_4).f4)]] (by rfl) rfl rfl (by (try simp only [List.map_toArray, List.map_cons, List.map_nil]); first | done | rfl | (simp only [List.length_drop, List.length_take]; rfl)) ?_
                   with_reducible refine (spec_l9Else.calls k4 _ _ l0_0 _ _ l0_1 ((rd_T36 ((rd_T32 l0_0 x7_3).f1) x8_4).f0) ((rd_T36 ((rd_T32 l0_0 x7_3).f1) x8_4).f1) ((rd_T36 ((rd_T32 l0_0 x7_3).f1) x8_4).f2.f0) ((rd_T36 ((rd_T32 l0_0 x7_3).f1) x8_4).f2.f1) ((rd_T36 ((rd_T32 l0_0 x7_3).f1) x8_4).f3) ((rd_T36 ((rd_T32 l0_0 x7_3).f1) x8_4).f4) false _ ?side1 ?side2 ?side3 ?side4 A58.out).mono ?_
                   (case side1 => repeat (first | exact (Kd.C_below HR0_0.out HB.out) | (with_reducible refine Kd.C_alloc ?_ _) | (with_reducible refine Kd.C_drewN ?_ _) | (with_reducible refine Kd.C_drew ?_)))
                   (case side2 => exact HC0_0.out)
                   (case side3 => repeat (first | exact (Kd.C_below HR0_1.out HB.out) | (with_reducible refine Kd.C_alloc ?_ _) | (with_reducible refine Kd.C_drewN ?_ _) | (with_reducible refine Kd.C_drew ?_)))
                   (case side4 => exact HC0_1.out)
                   rintro e w65 ⟨rfl, hb⟩
                   refine ⟨_, rfl, ?_⟩
                   have n0_ := Aside0.mk (blk_below (g := gb366) (o := .cells #[.slice (some ad379) l0_0.length c0_0, .slice A0_1 l0_1.length c0_1] 26 (0, 0)) (by (with_reducible repeat (first | refine blk_drewN ?_ _ | refine blk_drew ?_ | refine blk_alloc ?_ _)); exact qj1.out) hb)
                   have n1_ := Aside0.mk (below_step (by repeat (first | (with_reducible first | exact HB.out | apply below_alloc | apply pw_below_drewN | apply below_drew1 | refine below_set ?_ qi1.out) | exact HB.out)) hb)
                   clear qj1
                   clear HB
                   have qj1 := n0_
                   have HB := n1_
                   clear n0_ n1_
                   (try clear hb)
                   (try clear hb2)
                   (try clear hk)
                   (try clear hi)
                   refine hK.out _ _ ⟨(blk_cell qj1.out 0).trans rfl, (blk_cell qj1.out 1).trans rfl, ((HB.out.cell (World.block_lt_of_cell? w _ hw380_0)).trans hw380_0), ((HB.out.cell (World.block_lt_of_cell? w _ hw380_1)).trans hw380_1), ((HB.out.cell (World.block_lt_of_cell? w _ hw381_0)).trans hw381_0), ((HB.out.cell (World.block_lt_of_cell? w _ hw381_1)).trans hw381_1), ((HB.out.cell (World.block_lt_of_cell? w _ hw381_2)).trans hw381_2), ((HB.out.cell (World.block_lt_of_cell? w _ hw381_3)).trans hw381_3), ((HB.out.cell (World.block_lt_of_cell? w _ hw381_4)).trans hw381_4), ((HB.out.cell (World.block_lt_of_cell? w _ hw381_5)).trans hw381_5)⟩ (fun hHeld => ?_)
                   clear hK K
                   refine norm_ (a' := ?_) ?_ ?_
                   rotate_left
                   ·show Act.put _ (some 116) _ = _
                    simp only [Act.put, List.setIfInBounds_toArray, List.set_cons_zero, List.set_cons_succ, i64_w, i32_w]
                    rfl
                   refine pure_ (i := 11) (N := some 117) (v := ?_) (a' := ?_) #[true, true, true, true, true, true, true, true, true, true, true, true] rfl rfl (any_of HT_.out (by kernel_rfl)) (fun _ _ _ h => h) (Or.inl ⟨by rfl, ?_⟩) ?_ ?_
                   rotate_left
                   ·intro w'
                    go_simp
                    with_reducible rfl
                   rotate_left
                   ·simp only [Act.put, List.setIfInBounds_toArray, List.set_cons_zero, List.set_cons_succ, i64_w, i32_w]
                    rfl
                   refine done_ (done_of HT_.out (by kernel_rfl)) ?_
                   try go_wp2
                   go_ret
                   exact ⟨by first | rfl | (simp [errW_none, errW_some] <;> rfl) | (simp [*, errW_none, errW_some] <;> rfl) | (simp only [Bool.and_eq_true, beq_iff_eq, Bool.not_eq_true', Bool.not_eq_eq_eq_not, Bool.not_true, Bool.not_false] at *; simp [*]), by repeat (first | (with_reducible first | exact HB.out | apply below_alloc | apply pw_below_drewN | apply below_drew1 | refine below_set ?_ qi1.out) | exact HB.out)⟩
                 ·rw [if_neg c57] at H
                  exact absurd H (by simp)
                ·rw [if_neg c56] at H
                 have c56b0 : decide (x8_4 < (((rd_T32 l0_0 x7_3).f1).length : Int)) = false := decide_eq_false c56
                 clear c56
                 have H' := Aside0.mk H
                 clear H
                 have hcz66_0 : wr.cell? ⟨gb366, 0, none⟩ = some (.slice A0_0 l0_0.length c0_0) := (blk_cell qj1.out 0).trans rfl
                 have hcz66_1 : wr.cell? ⟨gb366, 1, none⟩ = some (.slice A0_1 l0_1.length c0_1) := (blk_cell qj1.out 1).trans rfl
                 have hfz66_0 := blk_frozen qj1.out 0
                 have hfz66_1 := blk_frozen qj1.out 1
                 have p379 : 0 ≤ (x7_3 : Int) := of_decide_eq_true (by first | (with_reducible assumption) | assumption)
                 have q379 : x7_3 < (l0_0.length : Int) := of_decide_eq_true (by first | (with_reducible assumption) | assumption)
                 obtain ⟨ad379, A379_1, c379_1, e379, qg1, qa, hl379_1, hi379_1⟩ := at_T32 HR0_0.out x7_3 p379 q379
                 cases e379
                 replace qg1 := (HB.out.cell (World.block_lt_of_cell? w _ qg1)).trans qg1
                 replace qa := (HB.out.cell (World.block_lt_of_cell? w _ qa)).trans qa
                 have HR379_1 := Aside0.mk hi379_1
                 have HC379_1 := Aside0.mk hl379_1
                 clear hi379_1 hl379_1
                 replace p379 := eq_true p379
                 replace q379 := eq_true q379
                 go_wp2
                 go_roundg k4
                 case measure => have := HK1.out; have := HK2.out; have := HK3.out; have := HK4.out; omega
                 case rel => exact ⟨(wrap64 (x7_3 + 1)), (by first | rfl | (simp; done) | (simp [*]; done)), H', ⟨by have := HK1.out; have := HK2.out; have := HK3.out; have := HK4.out; omega⟩, ⟨by (with_reducible repeat (first | refine blk_drewN ?_ _ | refine blk_drew ?_ | refine blk_alloc ?_ _)); exact qj1.out⟩, ⟨by repeat (first | (with_reducible first | exact HB.out | apply below_alloc | apply pw_below_drewN | apply below_drew1 | refine below_set ?_ qi1.out) | exact HB.out)⟩⟩
               ·rw [if_neg c55] at H
                exact absurd H (by simp)
              ·rw [if_neg c54] at H
               exact absurd H (by simp)
           ·rw [if_neg c52] at H
            have c52b0 : decide (x7_3 < (l0_0.length : Int)) = false := decide_eq_false c52
            clear c52
            obtain rfl := Option.some.inj H
            have hcz67_0 : wr.cell? ⟨gb366, 0, none⟩ = some (.slice A0_0 l0_0.length c0_0) := (blk_cell qj1.out 0).trans rfl
            have hcz67_1 : wr.cell? ⟨gb366, 1, none⟩ = some (.slice A0_1 l0_1.length c0_1) := (blk_cell qj1.out 1).trans rfl
            have hfz67_0 := blk_frozen qj1.out 0
            have hfz67_1 := blk_frozen qj1.out 1
            go_wp2
            go_ret
            exact ⟨by first | rfl | (simp [errW_none, errW_some] <;> rfl) | (simp [*, errW_none, errW_some] <;> rfl) | (simp only [Bool.and_eq_true, beq_iff_eq, Bool.not_eq_true', Bool.not_eq_eq_eq_not, Bool.not_true, Bool.not_false] at *; simp [*]), by repeat (first | (with_reducible first | exact HB.out | apply below_alloc | apply pw_below_drewN | apply below_drew1 | refine below_set ?_ qi1.out) | exact HB.out)⟩
 ·replace c3 := Bool.eq_false_iff.mpr c3
  subst c3
  have H1 : (some 1) = some r := by rw [if_neg (show ¬ (false = true) by decide)] at H; exact H
  clear H
  have H := H1
  clear H1
  obtain rfl := Option.some.inj H
  go_enter Tryd.func6, Tryd.ntmps6
  go_wp2_with (first | ((with_reducible refine gate_dst (N := 1) rfl ?_); refine box_event ?hg (N := 1) ?hd (cs := #[.slice A0_0 l0_0.length c0_0, .slice A0_1 l0_1.length c0_1]) (t := 26) ?hr ?_; (case hd => rfl); (case hg => rfl); (case hr => first | (go_simp; done) | (go_simp; rfl)); intro gb366 hg w68 hbox hb; have n0_ := Aside0.mk (below_step (by repeat (first | (with_reducible first | exact HB.out | apply below_alloc | apply pw_below_drewN | apply below_drew1) | exact HB.out)) hb); have n1_ := Aside0.mk (hbox); have n2_ := Aside0.mk ((by rw [hg]; exact (below_size (by repeat (first | (with_reducible first | exact HB.out | apply below_alloc | apply pw_below_drewN | apply below_drew1) | exact HB.out))) : w.heap.size ≤ gb366)); have n3_ := Aside0.mk ((by rw [hg]; exact (below_size (by repeat (first | (with_reducible first | exact HB.out | apply below_alloc | apply pw_below_drewN | apply below_drew1) | exact HB.out))) : w.heap.size ≤ gb366)); clear HB; have HB := n0_; have qj1 := n1_; have qk1 := n2_; have qi1 := n3_; clear n0_ n1_ n2_ n3_; clear hb hbox hg; have hcz69_0 : w68.cell? ⟨gb366, 0, none⟩ = some (.slice A0_0 l0_0.length c0_0) := (blk_cell qj1.out 0).trans rfl; have hcz69_1 : w68.cell? ⟨gb366, 1, none⟩ = some (.slice A0_1 l0_1.length c0_1) := (blk_cell qj1.out 1).trans rfl; have hfz69_0 := blk_frozen qj1.out 0; have hfz69_1 := blk_frozen qj1.out 1) | ((with_reducible refine gate_callee (f := 20) rfl ?_); refine goesL_ (some 10) rfl rfl Tryd.func20 (by kernel_rfl) rfl #[.agg #[.slice A0_0 l0_0.length c0_0, .slice A0_1 l0_1.length c0_1]] rfl (by (try simp only [List.map_toArray, List.map_cons, List.map_nil]); first | done | rfl | (simp only [List.length_drop, List.length_take]; rfl)) ?_; (with_reducible refine (spec_l9Form.calls k _ _ l0_0 _ _ l0_1 false _ ?side1 ?side2 ?side3 ?side4 A2.out).mono ?_); (case side1 => repeat (first | exact (Kd.C_below HR0_0.out HB.out) | (with_reducible refine Kd.C_alloc ?_ _) | (with_reducible refine Kd.C_drewN ?_ _) | (with_reducible refine Kd.C_drew ?_))); (case side2 => exact HC0_0.out); (case side3 => repeat (first | exact (Kd.C_below HR0_1.out HB.out) | (with_reducible refine Kd.C_alloc ?_ _) | (with_reducible refine Kd.C_drewN ?_ _) | (with_reducible refine Kd.C_drew ?_))); (case side4 => exact HC0_1.out); rintro e w70 ⟨rfl, hb⟩; refine ⟨_, rfl, ?_⟩; have n0_ := Aside0.mk (blk_below (g := gb366) (o := .cells #[.slice A0_0 l0_0.length c0_0, .slice A0_1 l0_1.length c0_1] 26 (0, 0)) (by (with_reducible repeat (first | refine blk_drewN ?_ _ | refine blk_drew ?_ | refine blk_alloc ?_ _)); exact qj1.out) hb); have n1_ := Aside0.mk (below_step (by repeat (first | (with_reducible first | exact HB.out | apply below_alloc | apply pw_below_drewN | apply below_drew1 | refine below_set ?_ qi1.out) | exact HB.out)) hb); clear qj1; clear HB; have qj1 := n0_; have HB := n1_; clear n0_ n1_; (try clear hb); (try clear hb2); (try clear hk); (try clear hi)))
  go_ret
  exact ⟨by first | rfl | (simp [errW_none, errW_some] <;> rfl) | (simp [*, errW_none, errW_some] <;> rfl) | (simp only [Bool.and_eq_true, beq_iff_eq, Bool.not_eq_true', Bool.not_eq_eq_eq_not, Bool.not_true, Bool.not_false] at *; simp [*]), by repeat (first | (with_reducible first | exact HB.out | apply below_alloc | apply pw_below_drewN | apply below_drew1 | refine below_set ?_ qi1.out) | exact HB.out)⟩

end Go.Proofs.YtjeipkfeihahdaaDoor.P
