-- PRINTED by print.py (a twelfth state) out of the translation. Not trusted: Lean checks it.
import Derived.Test.YtjeipkfeihahdaaDoorPx0
import Derived.Test.YtjeipkfeihahdaaDoorPx11
import Derived.Test.YtjeipkfeihahdaaDoorPx12
import Derived.Test.YtjeipkfeihahdaaDoorPx13
namespace Go.Proofs.YtjeipkfeihahdaaDoor.P
open Go.RowKit Go.Proofs.YtjeipkfeihahdaaDoorW.PrintWords Go.Proofs.YtjeipkfeihahdaaDoorW.PrintLast Go.Proofs.YtjeipkfeihahdaaDoorW.PrintMore
attribute [local go_sem] max2_int min2_int max_two min_two max_three min_three max_four min_four   -- for this text's walks alone
set_option linter.unusedVariables false
set_option linter.unusedSimpArgs false

/-! ### spec_l9Form: function 20 -/
mutual
def spec_l9Form.l0 : Nat → Int → List (S32) → List (S65) → Option (Bool)
 | 0, _, _, _ => none
 | k + 1, x3, qc1, qu => if x3 < (qc1.length : Int) then (if 0 ≤ x3 then ((spec_l9Name.f k ((rd_T32 qc1 x3).f0)).bind fun t290 => (if t290 = true then ((spec_l9Size.f ((rd_T32 qc1 x3).f0)).bind fun t292 => (if t292 > 0 then (spec_l9Form.j1 k x3 true qc1 qu) else ((spec_l1In.f (((rd_T32 qc1 x3).f1).length : Int) 1 8).bind fun t294 => (spec_l9Form.j1 k x3 (!t294) qc1 qu)))) else (spec_l9Form.j1 k x3 true qc1 qu))) else (none)) else (spec_l9Form.l2 k 0 qc1 qu)
def spec_l9Form.j1 : Nat → Int → Bool → List (S32) → List (S65) → Option (Bool)
 | 0, _, _, _, _ => none
 | k + 1, x3, x42, qc1, qu => if x42 = true then (some false) else (spec_l9Form.l1 k x3 0 qc1 qu)
def spec_l9Form.l1 : Nat → Int → Int → List (S32) → List (S65) → Option (Bool)
 | 0, _, _, _, _ => none
 | k + 1, x3, x4, qc1, qu => if 0 ≤ x3 then (if x3 < (qc1.length : Int) then (if x4 < (((rd_T32 qc1 x3).f1).length : Int) then (if 0 ≤ x4 then ((spec_l9Name.f k ((rd_T36 ((rd_T32 qc1 x3).f1) x4).f0)).bind fun t298 => (if t298 = true then ((spec_l9Name.f k ((rd_T36 ((rd_T32 qc1 x3).f1) x4).f2.f0)).bind fun t301 => (if t301 = true then (spec_l9Form.l1 k x3 (wrap64 (x4 + 1)) qc1 qu) else (some false))) else (some false))) else (none)) else (spec_l9Form.l0 k (wrap64 (x3 + 1)) qc1 qu)) else (none)) else (none)
def spec_l9Form.l2 : Nat → Int → List (S32) → List (S65) → Option (Bool)
 | 0, _, _, _ => none
 | k + 1, x5, qc1, qu => if x5 < (qu.length : Int) then (if 0 ≤ x5 then ((spec_l9Name.f k ((rd_T65 qu x5).f0)).bind fun t304 => (if t304 = true then ((spec_l9Size.f ((rd_T65 qu x5).f0)).bind fun t306 => (if t306 > 0 then (spec_l9Form.j4 k x5 true qc1 qu) else ((spec_l1In.f (((rd_T65 qu x5).f1).length : Int) 1 8).bind fun t308 => (spec_l9Form.j4 k x5 (!t308) qc1 qu)))) else (spec_l9Form.j4 k x5 true qc1 qu))) else (none)) else ((spec_l1In.f (qc1.length : Int) 1 5).bind fun t302 => (if t302 = true then (some (decide ((qu.length : Int) ≤ 3))) else (some false)))
def spec_l9Form.j4 : Nat → Int → Bool → List (S32) → List (S65) → Option (Bool)
 | 0, _, _, _, _ => none
 | k + 1, x5, x116, qc1, qu => if x116 = true then (some false) else (spec_l9Form.l3 k x5 0 qc1 qu)
def spec_l9Form.l3 : Nat → Int → Int → List (S32) → List (S65) → Option (Bool)
 | 0, _, _, _, _ => none
 | k + 1, x5, x6, qc1, qu => if 0 ≤ x5 then (if x5 < (qu.length : Int) then (if x6 < (((rd_T65 qu x5).f1).length : Int) then (if 0 ≤ x6 then ((spec_l9Name.f k (rdOf ByteArray.empty ((rd_T65 qu x5).f1) x6)).bind fun t312 => (if t312 = true then (spec_l9Form.l3 k x5 (wrap64 (x6 + 1)) qc1 qu) else (some false))) else (none)) else (spec_l9Form.l2 k (wrap64 (x5 + 1)) qc1 qu)) else (none)) else (none)
end
def spec_l9Form.f (k : Nat) (l0_0 : List (S32)) (l0_1 : List (S65)) : Option (Bool) := spec_l9Form.l0 k 0 l0_0 l0_1
theorem spec_l9Form.mono_l : ∀ k, (∀ y0 y1 y2, LeO (spec_l9Form.l0 k y0 y1 y2) (spec_l9Form.l0 (k + 1) y0 y1 y2)) ∧ (∀ y0 y1 y2 y3, LeO (spec_l9Form.j1 k y0 y1 y2 y3) (spec_l9Form.j1 (k + 1) y0 y1 y2 y3)) ∧ (∀ y0 y1 y2 y3, LeO (spec_l9Form.l1 k y0 y1 y2 y3) (spec_l9Form.l1 (k + 1) y0 y1 y2 y3)) ∧ (∀ y0 y1 y2, LeO (spec_l9Form.l2 k y0 y1 y2) (spec_l9Form.l2 (k + 1) y0 y1 y2)) ∧ (∀ y0 y1 y2 y3, LeO (spec_l9Form.j4 k y0 y1 y2 y3) (spec_l9Form.j4 (k + 1) y0 y1 y2 y3)) ∧ (∀ y0 y1 y2 y3, LeO (spec_l9Form.l3 k y0 y1 y2 y3) (spec_l9Form.l3 (k + 1) y0 y1 y2 y3))
 | 0 => ⟨fun _ _ _ r h => by simp [spec_l9Form.l0] at h, fun _ _ _ _ r h => by simp [spec_l9Form.j1] at h, fun _ _ _ _ r h => by simp [spec_l9Form.l1] at h, fun _ _ _ r h => by simp [spec_l9Form.l2] at h, fun _ _ _ _ r h => by simp [spec_l9Form.j4] at h, fun _ _ _ _ r h => by simp [spec_l9Form.l3] at h⟩
 | k + 1 => by
  obtain ⟨ih0, ih1, ih2, ih3, ih4, ih5⟩ := spec_l9Form.mono_l k
  refine ⟨?_, ?_, ?_, ?_, ?_, ?_⟩
  ·intro y0 y1 y2
   unfold spec_l9Form.l0
   repeat' first
   | (with_reducible exact ih0 _ _ _)
   | (with_reducible exact ih1 _ _ _ _)
   | (with_reducible exact ih2 _ _ _ _)
   | (with_reducible exact ih3 _ _ _)
   | (with_reducible exact ih4 _ _ _ _)
   | (with_reducible exact ih5 _ _ _ _)
   | (with_reducible exact spec_l9Name.mono _ _)
   | (with_reducible exact LeO.refl _)
   | (with_reducible exact LeO.none _)
   | (with_reducible refine LeO.ite ?_ ?_)
   | (with_reducible refine LeO.bind ?_ (fun _ => ?_))
   | exact ih0 _ _ _
   | exact ih1 _ _ _ _
   | exact ih2 _ _ _ _
   | exact ih3 _ _ _
   | exact ih4 _ _ _ _
   | exact ih5 _ _ _ _
   | exact spec_l9Name.mono _ _
   | exact LeO.none _
   | refine LeO.ite ?_ ?_
   | refine LeO.bind ?_ (fun _ => ?_)
  ·intro y0 y1 y2 y3
   unfold spec_l9Form.j1
   repeat' first
   | (with_reducible exact ih0 _ _ _)
   | (with_reducible exact ih1 _ _ _ _)
   | (with_reducible exact ih2 _ _ _ _)
   | (with_reducible exact ih3 _ _ _)
   | (with_reducible exact ih4 _ _ _ _)
   | (with_reducible exact ih5 _ _ _ _)
   | (with_reducible exact spec_l9Name.mono _ _)
   | (with_reducible exact LeO.refl _)
   | (with_reducible exact LeO.none _)
   | (with_reducible refine LeO.ite ?_ ?_)
   | (with_reducible refine LeO.bind ?_ (fun _ => ?_))
   | exact ih0 _ _ _
   | exact ih1 _ _ _ _
   | exact ih2 _ _ _ _
   | exact ih3 _ _ _
   | exact ih4 _ _ _ _
   | exact ih5 _ _ _ _
   | exact spec_l9Name.mono _ _
   | exact LeO.none _
   | refine LeO.ite ?_ ?_
   | refine LeO.bind ?_ (fun _ => ?_)
  ·intro y0 y1 y2 y3
   unfold spec_l9Form.l1
   repeat' first
   | (with_reducible exact ih0 _ _ _)
   | (with_reducible exact ih1 _ _ _ _)
   | (with_reducible exact ih2 _ _ _ _)
   | (with_reducible exact ih3 _ _ _)
   | (with_reducible exact ih4 _ _ _ _)
   | (with_reducible exact ih5 _ _ _ _)
   | (with_reducible exact spec_l9Name.mono _ _)
   | (with_reducible exact LeO.refl _)
   | (with_reducible exact LeO.none _)
   | (with_reducible refine LeO.ite ?_ ?_)
   | (with_reducible refine LeO.bind ?_ (fun _ => ?_))
   | exact ih0 _ _ _
   | exact ih1 _ _ _ _
   | exact ih2 _ _ _ _
   | exact ih3 _ _ _
   | exact ih4 _ _ _ _
   | exact ih5 _ _ _ _
   | exact spec_l9Name.mono _ _
   | exact LeO.none _
   | refine LeO.ite ?_ ?_
   | refine LeO.bind ?_ (fun _ => ?_)
  ·intro y0 y1 y2
   unfold spec_l9Form.l2
   repeat' first
   | (with_reducible exact ih0 _ _ _)
   | (with_reducible exact ih1 _ _ _ _)
   | (with_reducible exact ih2 _ _ _ _)
   | (with_reducible exact ih3 _ _ _)
   | (with_reducible exact ih4 _ _ _ _)
   | (with_reducible exact ih5 _ _ _ _)
   | (with_reducible exact spec_l9Name.mono _ _)
   | (with_reducible exact LeO.refl _)
   | (with_reducible exact LeO.none _)
   | (with_reducible refine LeO.ite ?_ ?_)
   | (with_reducible refine LeO.bind ?_ (fun _ => ?_))
   | exact ih0 _ _ _
   | exact ih1 _ _ _ _
   | exact ih2 _ _ _ _
   | exact ih3 _ _ _
   | exact ih4 _ _ _ _
   | exact ih5 _ _ _ _
   | exact spec_l9Name.mono _ _
   | exact LeO.none _
   | refine LeO.ite ?_ ?_
   | refine LeO.bind ?_ (fun _ => ?_)
  ·intro y0 y1 y2 y3
   unfold spec_l9Form.j4
   repeat' first
   | (with_reducible exact ih0 _ _ _)
   | (with_reducible exact ih1 _ _ _ _)
   | (with_reducible exact ih2 _ _ _ _)
   | (with_reducible exact ih3 _ _ _)
   | (with_reducible exact ih4 _ _ _ _)
   | (with_reducible exact ih5 _ _ _ _)
   | (with_reducible exact spec_l9Name.mono _ _)
   | (with_reducible exact LeO.refl _)
   | (with_reducible exact LeO.none _)
   | (with_reducible refine LeO.ite ?_ ?_)
   | (with_reducible refine LeO.bind ?_ (fun _ => ?_))
   | exact ih0 _ _ _
   | exact ih1 _ _ _ _
   | exact ih2 _ _ _ _
   | exact ih3 _ _ _
   | exact ih4 _ _ _ _
   | exact ih5 _ _ _ _
   | exact spec_l9Name.mono _ _
   | exact LeO.none _
   | refine LeO.ite ?_ ?_
   | refine LeO.bind ?_ (fun _ => ?_)
  ·intro y0 y1 y2 y3
   unfold spec_l9Form.l3
   repeat' first
   | (with_reducible exact ih0 _ _ _)
   | (with_reducible exact ih1 _ _ _ _)
   | (with_reducible exact ih2 _ _ _ _)
   | (with_reducible exact ih3 _ _ _)
   | (with_reducible exact ih4 _ _ _ _)
   | (with_reducible exact ih5 _ _ _ _)
   | (with_reducible exact spec_l9Name.mono _ _)
   | (with_reducible exact LeO.refl _)
   | (with_reducible exact LeO.none _)
   | (with_reducible refine LeO.ite ?_ ?_)
   | (with_reducible refine LeO.bind ?_ (fun _ => ?_))
   | exact ih0 _ _ _
   | exact ih1 _ _ _ _
   | exact ih2 _ _ _ _
   | exact ih3 _ _ _
   | exact ih4 _ _ _ _
   | exact ih5 _ _ _ _
   | exact spec_l9Name.mono _ _
   | exact LeO.none _
   | refine LeO.ite ?_ ?_
   | refine LeO.bind ?_ (fun _ => ?_)
theorem spec_l9Form.mono : ∀ a0 a1 k, LeO (spec_l9Form.f k a0 a1) (spec_l9Form.f (k + 1) a0 a1) := by
 intro a0 a1 k
 obtain ⟨ih0, ih1, ih2, ih3, ih4, ih5⟩ := spec_l9Form.mono_l k
 unfold spec_l9Form.f
 repeat' first
   | (with_reducible exact ih0 _ _ _)
   | (with_reducible exact ih1 _ _ _ _)
   | (with_reducible exact ih2 _ _ _ _)
   | (with_reducible exact ih3 _ _ _)
   | (with_reducible exact ih4 _ _ _ _)
   | (with_reducible exact ih5 _ _ _ _)
   | (with_reducible exact spec_l9Name.mono _ _)
   | (with_reducible exact LeO.refl _)
   | (with_reducible exact LeO.none _)
   | (with_reducible refine LeO.ite ?_ ?_)
   | (with_reducible refine LeO.bind ?_ (fun _ => ?_))
   | exact ih0 _ _ _
   | exact ih1 _ _ _ _
   | exact ih2 _ _ _ _
   | exact ih3 _ _ _
   | exact ih4 _ _ _ _
   | exact ih5 _ _ _ _
   | exact spec_l9Name.mono _ _
   | exact LeO.none _
   | refine LeO.ite ?_ ?_
   | refine LeO.bind ?_ (fun _ => ?_)
set_option maxHeartbeats 8000000 in
set_option maxRecDepth 100000 in
theorem spec_l9Form.calls (k : Nat) (A0_0 : Option Addr) (c0_0 : Nat) (l0_0 : List (S32)) (A0_1 : Option Addr) (c0_1 : Nat) (l0_1 : List (S65)) (r : Bool) (w : World) (hr0_0 : Kd.C k32 w A0_0 l0_0.length l0_0) (hc0_0 : l0_0.length ≤ c0_0) (hr0_1 : Kd.C k65 w A0_1 l0_1.length l0_1) (hc0_1 : l0_1.length ≤ c0_1) (h : spec_l9Form.f k l0_0 l0_1 = some r) :
  Calls Tryd.prog 20 #[.agg #[.slice A0_0 l0_0.length c0_0, .slice A0_1 l0_1.length c0_1]] w fun e w' => e = .returned (.bool r) ∧ Below w.heap.size w w' := by
 have hu26 := Tryd.underlying26
 have HR0_0 := Aside0.mk hr0_0
 have HC0_0 := Aside0.mk hc0_0
 clear hr0_0 hc0_0
 have HR0_1 := Aside0.mk hr0_1
 have HC0_1 := Aside0.mk hc0_1
 clear hr0_1 hc0_1
 have HB := Aside0.mk (Below.refl w.heap.size w)
 have H : (spec_l9Form.l0 k 0 l0_0 l0_1) = some r := h
 clear h
 have H' := Aside0.mk H
 clear H
 go_enter Tryd.func20, Tryd.ntmps20
 go_wp2_with (first | ((with_reducible refine gate_dst (N := 1) rfl ?_); refine box_event ?hg (N := 1) ?hd (cs := #[.slice A0_0 l0_0.length c0_0, .slice A0_1 l0_1.length c0_1]) (t := 26) ?hr ?_; (case hd => rfl); (case hg => rfl); (case hr => first | (go_simp; done) | (go_simp; rfl)); intro gb288 hg w2 hbox hb; have n0_ := Aside0.mk (below_step (by repeat (first | (with_reducible first | exact HB.out | apply below_alloc | apply pw_below_drewN | apply below_drew1) | exact HB.out)) hb); have n1_ := Aside0.mk (hbox); have n2_ := Aside0.mk ((by rw [hg]; exact (below_size (by repeat (first | (with_reducible first | exact HB.out | apply below_alloc | apply pw_below_drewN | apply below_drew1) | exact HB.out))) : w.heap.size ≤ gb288)); have n3_ := Aside0.mk ((by rw [hg]; exact (below_size (by repeat (first | (with_reducible first | exact HB.out | apply below_alloc | apply pw_below_drewN | apply below_drew1) | exact HB.out))) : w.heap.size ≤ gb288)); clear HB; have HB := n0_; have qn1 := n1_; have qm1 := n2_; have ql1 := n3_; clear n0_ n1_ n2_ n3_; clear hb hbox hg))
 go_loopg [3] k (fun kq v3 w' => ∃ (x3_1 : Int), v3 = .int .i64 x3_1 ∧ Aside0 (spec_l9Form.l0 kq x3_1 l0_0 l0_1 = some r) ∧ Aside0 (kq ≤ k) ∧ Aside0 (w'.heap[gb288]? = some (.cells #[(.slice A0_0 l0_0.length c0_0), (.slice A0_1 l0_1.length c0_1)] 26 (0, 0))) ∧ Aside0 (Below w.heap.size w w'))
 case atStart => exact ⟨(0), (by first | rfl | (simp; done) | (simp [*]; done)), H', ⟨Nat.le_refl _⟩, ⟨by (with_reducible repeat (first | refine blk_drewN ?_ _ | refine blk_drew ?_ | refine blk_alloc ?_ _)); exact qn1.out⟩, ⟨by repeat (first | (with_reducible first | exact HB.out | apply below_alloc | apply pw_below_drewN | apply below_drew1 | refine below_set ?_ ql1.out) | exact HB.out)⟩⟩
 case round =>
  clear H'
  try clear c2
  try clear p2
  obtain ⟨x3_1, rfl, HA, HK1, qn1, HB⟩ := hrel
  cases gk with
  | zero => exact absurd HA.out (by simp [spec_l9Form.l0])
  | succ k1 =>
   have H := HA.out
   clear HA
   simp only [spec_l9Form.l0] at H
   by_cases c3 : x3_1 < (l0_0.length : Int)
   ·rw [if_pos c3] at H
    have c3b0 : decide (x3_1 < (l0_0.length : Int)) = true := decide_eq_true c3
    clear c3
    have HC4 := Aside0.mk H
    clear H
    have hcz5_0 : wr.cell? ⟨gb288, 0, none⟩ = some (.slice A0_0 l0_0.length c0_0) := (blk_cell qn1.out 0).trans rfl
    have hcz5_1 : wr.cell? ⟨gb288, 1, none⟩ = some (.slice A0_1 l0_1.length c0_1) := (blk_cell qn1.out 1).trans rfl
    have hfz5_0 := blk_frozen qn1.out 0
    have hfz5_1 := blk_frozen qn1.out 1
    go_upto_region 4 with (fail)
    go_cut [42] (fun v42 wc => ∃ (kq : Nat) (x42_3 : Bool), v42 = .bool x42_3 ∧ Aside0 (spec_l9Form.j1 kq x3_1 x42_3 l0_0 l0_1 = some r) ∧ Aside0 (kq ≤ k1) ∧ Aside0 (wc.heap[gb288]? = some (.cells #[(.slice A0_0 l0_0.length c0_0), (.slice A0_1 l0_1.length c0_1)] 26 (0, 0))) ∧ Aside0 (Below w.heap.size w wc))
    case first =>
     have H := HC4.out
     clear HC4
     by_cases c6 : 0 ≤ x3_1
     ·rw [if_pos c6] at H
      have c6b0 : decide (0 ≤ x3_1) = true := decide_eq_true c6
      clear c6
      (first | rw [c6b0] | (simp only [i64_w, i32_w]; rw [c6b0]) | skip)
      replace H := Option.bind_eq_some_iff.mp H
      obtain ⟨t290, A70, H⟩ := H
      replace H : (if t290 = true then ((spec_l9Size.f ((rd_T32 l0_0 x3_1).f0)).bind fun t292 => (if t292 > 0 then (spec_l9Form.j1 k1 x3_1 true l0_0 l0_1) else ((spec_l1In.f (((rd_T32 l0_0 x3_1).f1).length : Int) 1 8).bind fun t294 => (spec_l9Form.j1 k1 x3_1 (!t294) l0_0 l0_1)))) else (spec_l9Form.j1 k1 x3_1 true l0_0 l0_1)) = some r := H
      have A7 := Aside0.mk A70
      clear A70
      by_cases c8 : t290 = true
      ·subst c8
       have H1 : ((spec_l9Size.f ((rd_T32 l0_0 x3_1).f0)).bind fun t292 => (if t292 > 0 then (spec_l9Form.j1 k1 x3_1 true l0_0 l0_1) else ((spec_l1In.f (((rd_T32 l0_0 x3_1).f1).length : Int) 1 8).bind fun t294 => (spec_l9Form.j1 k1 x3_1 (!t294) l0_0 l0_1)))) = some r := by rw [if_pos rfl] at H; exact H
       clear H
       have H := H1
       clear H1
       replace H := Option.bind_eq_some_iff.mp H
       obtain ⟨t292, A90, H⟩ := H
       replace H : (if t292 > 0 then (spec_l9Form.j1 k1 x3_1 true l0_0 l0_1) else ((spec_l1In.f (((rd_T32 l0_0 x3_1).f1).length : Int) 1 8).bind fun t294 => (spec_l9Form.j1 k1 x3_1 (!t294) l0_0 l0_1))) = some r := H
       have A9 := Aside0.mk A90
       clear A90
       by_cases c10 : t292 > 0
       ·rw [if_pos c10] at H
        have c10b0 : decide (0 < t292) = true := decide_eq_true c10
        clear c10
        have H' := Aside0.mk H
        clear H
        have hcz11_0 : wr.cell? ⟨gb288, 0, none⟩ = some (.slice A0_0 l0_0.length c0_0) := (blk_cell qn1.out 0).trans rfl
        have hcz11_1 : wr.cell? ⟨gb288, 1, none⟩ = some (.slice A0_1 l0_1.length c0_1) := (blk_cell qn1.out 1).trans rfl
        have hfz11_0 := blk_frozen qn1.out 0
        have hfz11_1 := blk_frozen qn1.out 1
        have p289 : 0 ≤ (x3_1 : Int) := of_decide_eq_true (by first | (with_reducible assumption) | assumption)
        have q289 : x3_1 < (l0_0.length : Int) := of_decide_eq_true (by first | (with_reducible assumption) | assumption)
        obtain ⟨ad289, A289_1, c289_1, e289, qi, qw, hl289_1, hi289_1⟩ := at_T32 HR0_0.out x3_1 p289 q289
        cases e289
        replace qi := (HB.out.cell (World.block_lt_of_cell? w _ qi)).trans qi
        replace qw := (HB.out.cell (World.block_lt_of_cell? w _ qw)).trans qw
        have HR289_1 := Aside0.mk hi289_1
        have HC289_1 := Aside0.mk hl289_1
        clear hi289_1 hl289_1
        replace p289 := eq_true p289
        replace q289 := eq_true q289
        go_wp2_with (first | ((with_reducible refine gate_callee (f := 43) rfl ?_); refine goesL_ (some 20) rfl rfl Tryd.func43 (by kernel_rfl) rfl #[.string ((rd_T32 l0_0 x3_1).f0)] rfl (by (try simp only [List.map_toArray, List.map_cons, List.map_nil]); first | done | rfl | (simp only [List.length_drop, List.length_take]; rfl)) ?_; (with_reducible refine (spec_l9Name.calls k1 ((rd_T32 l0_0 x3_1).f0) true _ A7.out).mono ?_); rintro e w' ⟨rfl, ⟨nd, rfl⟩⟩; refine ⟨_, rfl, ?_⟩; have p291 : 0 ≤ (x3_1 : Int) := of_decide_eq_true (by first | (with_reducible assumption) | assumption); have q291 : x3_1 < (l0_0.length : Int) := of_decide_eq_true (by first | (with_reducible assumption) | assumption); obtain ⟨ad291, A291_1, c291_1, e291, qm, qj1, hl291_1, hi291_1⟩ := at_T32 HR0_0.out x3_1 p291 q291; obtain rfl : ad289 = ad291 := (by injection e291); replace qm := (HB.out.cell (World.block_lt_of_cell? w _ qm)).trans qm; replace qj1 := (HB.out.cell (World.block_lt_of_cell? w _ qj1)).trans qj1; have HR291_1 := Aside0.mk hi291_1; have HC291_1 := Aside0.mk hl291_1; clear hi291_1 hl291_1; replace p291 := eq_true p291; replace q291 := eq_true q291; have ea_ := Option.some.inj (qw.symm.trans qj1); injection ea_ with ea_ en_ ec_; subst ea_; subst ec_; clear en_) | (go_at_call 44; (with_reducible refine (spec_l9Size.calls ((rd_T32 l0_0 x3_1).f0) t292 _ A9.out).mono ?_); rintro e w' ⟨rfl, ⟨nd, rfl⟩⟩))
        go_meet
        case rel => exact ⟨_, (true), (by first | rfl | (simp; done) | (simp [*]; done)), H', ⟨by have := HK1.out; first | omega | exact Nat.le_refl _⟩, ⟨by (with_reducible repeat (first | refine blk_drewN ?_ _ | refine blk_drew ?_ | refine blk_alloc ?_ _)); exact qn1.out⟩, ⟨by repeat (first | (with_reducible first | exact HB.out | apply below_alloc | apply pw_below_drewN | apply below_drew1 | refine below_set ?_ ql1.out) | exact HB.out)⟩⟩
       ·rw [if_neg c10] at H
        have c10b0 : decide (0 < t292) = false := decide_eq_false c10
        clear c10
        replace H := Option.bind_eq_some_iff.mp H
        obtain ⟨t294, A120, H⟩ := H
        replace H : (spec_l9Form.j1 k1 x3_1 (!t294) l0_0 l0_1) = some r := H
        have A12 := Aside0.mk A120
        clear A120
        have H' := Aside0.mk H
        clear H
        have hcz13_0 : wr.cell? ⟨gb288, 0, none⟩ = some (.slice A0_0 l0_0.length c0_0) := (blk_cell qn1.out 0).trans rfl
        have hcz13_1 : wr.cell? ⟨gb288, 1, none⟩ = some (.slice A0_1 l0_1.length c0_1) := (blk_cell qn1.out 1).trans rfl
        have hfz13_0 := blk_frozen qn1.out 0
        have hfz13_1 := blk_frozen qn1.out 1
        have p289 : 0 ≤ (x3_1 : Int) := of_decide_eq_true (by first | (with_reducible assumption) | assumption)
        have q289 : x3_1 < (l0_0.length : Int) := of_decide_eq_true (by first | (with_reducible assumption) | assumption)
        obtain ⟨ad289, A289_1, c289_1, e289, qi, qw, hl289_1, hi289_1⟩ := at_T32 HR0_0.out x3_1 p289 q289
        cases e289
        replace qi := (HB.out.cell (World.block_lt_of_cell? w _ qi)).trans qi
        replace qw := (HB.out.cell (World.block_lt_of_cell? w _ qw)).trans qw
        have HR289_1 := Aside0.mk hi289_1
        have HC289_1 := Aside0.mk hl289_1
        clear hi289_1 hl289_1
        replace p289 := eq_true p289
        replace q289 := eq_true q289
        go_wp2_with (first | ((with_reducible refine gate_callee (f := 43) rfl ?_); refine goesL_ (some 20) rfl rfl Tryd.func43 (by kernel_rfl) rfl #[.string ((rd_T32 l0_0 x3_1).f0)] rfl (by (try simp only [List.map_toArray, List.map_cons, List.map_nil]); first | done | rfl | (simp only [List.length_drop, List.length_take]; rfl)) ?_; (with_reducible refine (spec_l9Name.calls k1 ((rd_T32 l0_0 x3_1).f0) true _ A7.out).mono ?_); rintro e w' ⟨rfl, ⟨nd, rfl⟩⟩; refine ⟨_, rfl, ?_⟩; have p291 : 0 ≤ (x3_1 : Int) := of_decide_eq_true (by first | (with_reducible assumption) | assumption); have q291 : x3_1 < (l0_0.length : Int) := of_decide_eq_true (by first | (with_reducible assumption) | assumption); obtain ⟨ad291, A291_1, c291_1, e291, qm, qj1, hl291_1, hi291_1⟩ := at_T32 HR0_0.out x3_1 p291 q291; obtain rfl : ad289 = ad291 := (by injection e291); replace qm := (HB.out.cell (World.block_lt_of_cell? w _ qm)).trans qm; replace qj1 := (HB.out.cell (World.block_lt_of_cell? w _ qj1)).trans qj1; have HR291_1 := Aside0.mk hi291_1; have HC291_1 := Aside0.mk hl291_1; clear hi291_1 hl291_1; replace p291 := eq_true p291; replace q291 := eq_true q291; have ea_ := Option.some.inj (qw.symm.trans qj1); injection ea_ with ea_ en_ ec_; subst ea_; subst ec_; clear en_) | (go_at_call 44; (with_reducible refine (spec_l9Size.calls ((rd_T32 l0_0 x3_1).f0) t292 _ A9.out).mono ?_); rintro e w' ⟨rfl, ⟨nd, rfl⟩⟩; have p293 : 0 ≤ (x3_1 : Int) := of_decide_eq_true (by first | (with_reducible assumption) | assumption); have q293 : x3_1 < (l0_0.length : Int) := of_decide_eq_true (by first | (with_reducible assumption) | assumption); obtain ⟨ad293, A293_1, c293_1, e293, qe1, qs, hl293_1, hi293_1⟩ := at_T32 HR0_0.out x3_1 p293 q293; obtain rfl : ad289 = ad293 := (by injection e293); replace qe1 := (HB.out.cell (World.block_lt_of_cell? w _ qe1)).trans qe1; replace qs := (HB.out.cell (World.block_lt_of_cell? w _ qs)).trans qs; have HR293_1 := Aside0.mk hi293_1; have HC293_1 := Aside0.mk hl293_1; clear hi293_1 hl293_1; replace p293 := eq_true p293; replace q293 := eq_true q293; have ea_ := Option.some.inj (qw.symm.trans qs); injection ea_ with ea_ en_ ec_; subst ea_; subst ec_; clear en_) | (go_at_call 45; (with_reducible refine (spec_l1In.calls (((rd_T32 l0_0 x3_1).f1).length : Int) 1 8 t294 _ A12.out).mono ?_); rintro e w' ⟨rfl, ⟨nd, rfl⟩⟩))
        go_meet
        case rel => exact ⟨_, (!t294), (by first | rfl | (simp; done) | (simp [*]; done)), H', ⟨by have := HK1.out; first | omega | exact Nat.le_refl _⟩, ⟨by (with_reducible repeat (first | refine blk_drewN ?_ _ | refine blk_drew ?_ | refine blk_alloc ?_ _)); exact qn1.out⟩, ⟨by repeat (first | (with_reducible first | exact HB.out | apply below_alloc | apply pw_below_drewN | apply below_drew1 | refine below_set ?_ ql1.out) | exact HB.out)⟩⟩
      ·replace c8 := Bool.eq_false_iff.mpr c8
       subst c8
       have H1 : (spec_l9Form.j1 k1 x3_1 true l0_0 l0_1) = some r := by rw [if_neg (show ¬ (false = true) by decide)] at H; exact H
       clear H
       have H := H1
       clear H1
       have H' := Aside0.mk H
       clear H
       have hcz14_0 : wr.cell? ⟨gb288, 0, none⟩ = some (.slice A0_0 l0_0.length c0_0) := (blk_cell qn1.out 0).trans rfl
       have hcz14_1 : wr.cell? ⟨gb288, 1, none⟩ = some (.slice A0_1 l0_1.length c0_1) := (blk_cell qn1.out 1).trans rfl
       have hfz14_0 := blk_frozen qn1.out 0
       have hfz14_1 := blk_frozen qn1.out 1
       have p289 : 0 ≤ (x3_1 : Int) := of_decide_eq_true (by first | (with_reducible assumption) | assumption)
       have q289 : x3_1 < (l0_0.length : Int) := of_decide_eq_true (by first | (with_reducible assumption) | assumption)
       obtain ⟨ad289, A289_1, c289_1, e289, qi, qw, hl289_1, hi289_1⟩ := at_T32 HR0_0.out x3_1 p289 q289
       cases e289
       replace qi := (HB.out.cell (World.block_lt_of_cell? w _ qi)).trans qi
       replace qw := (HB.out.cell (World.block_lt_of_cell? w _ qw)).trans qw
       have HR289_1 := Aside0.mk hi289_1
       have HC289_1 := Aside0.mk hl289_1
       clear hi289_1 hl289_1
       replace p289 := eq_true p289
       replace q289 := eq_true q289
       go_wp2_with (first | ((with_reducible refine gate_callee (f := 43) rfl ?_); refine goesL_ (some 20) rfl rfl Tryd.func43 (by kernel_rfl) rfl #[.string ((rd_T32 l0_0 x3_1).f0)] rfl (by (try simp only [List.map_toArray, List.map_cons, List.map_nil]); first | done | rfl | (simp only [List.length_drop, List.length_take]; rfl)) ?_; (with_reducible refine (spec_l9Name.calls k1 ((rd_T32 l0_0 x3_1).f0) false _ A7.out).mono ?_); rintro e w' ⟨rfl, ⟨nd, rfl⟩⟩; refine ⟨_, rfl, ?_⟩))
       go_meet
       case rel => exact ⟨_, (true), (by first | rfl | (simp; done) | (simp [*]; done)), H', ⟨by have := HK1.out; first | omega | exact Nat.le_refl _⟩, ⟨by (with_reducible repeat (first | refine blk_drewN ?_ _ | refine blk_drew ?_ | refine blk_alloc ?_ _)); exact qn1.out⟩, ⟨by repeat (first | (with_reducible first | exact HB.out | apply below_alloc | apply pw_below_drewN | apply below_drew1 | refine below_set ?_ ql1.out) | exact HB.out)⟩⟩
     ·rw [if_neg c6] at H
      exact absurd H (by simp)
    case rest =>
     clear HC4
     try clear c1
     try clear c2
     try clear p2
     try clear q2
     try clear hx2
     try clear c3
     try clear c3b0
     try clear c4
     try clear c6
     try clear c6b0
     try clear c8
     try clear c10
     try clear c10b0
     try clear hcz11_0
     try clear hcz11_1
     try clear hcz13_0
     try clear hcz13_1
     try clear hcz14_0
     try clear hcz14_1
     try clear hcz5_0
     try clear hcz5_1
     try clear hfz11_0
     try clear hfz11_1
     try clear hfz13_0
     try clear hfz13_1
     try clear hfz14_0
     try clear hfz14_1
     try clear hfz5_0
     try clear hfz5_1
     try clear qi
     try clear qw
     try clear qm
     try clear qj1
     try clear qe1
     try clear qs
     try clear p2
     try clear p289
     try clear p291
     try clear p293
     try clear q289
     try clear q291
     try clear q293
     obtain ⟨kq, x42_3, rfl, HA, HJ3, qn1, HB⟩ := hcut
     cases kq with
     | zero => exact absurd HA.out (by simp [spec_l9Form.j1])
     | succ kj3 =>
      have H := HA.out
      clear HA
      simp only [spec_l9Form.j1] at H
      by_cases c15 : x42_3 = true
      ·subst c15
       have H1 : (some false) = some r := by rw [if_pos rfl] at H; exact H
       clear H
       have H := H1
       clear H1
       obtain rfl := Option.some.inj H
       go_wp2
       go_ret
       exact ⟨by first | rfl | (simp [errW_none, errW_some] <;> rfl) | (simp [*, errW_none, errW_some] <;> rfl) | (simp only [Bool.and_eq_true, beq_iff_eq, Bool.not_eq_true', Bool.not_eq_eq_eq_not, Bool.not_true, Bool.not_false] at *; simp [*]), by repeat (first | (with_reducible first | exact HB.out | apply below_alloc | apply pw_below_drewN | apply below_drew1 | refine below_set ?_ ql1.out) | exact HB.out)⟩
      ·replace c15 := Bool.eq_false_iff.mpr c15
       subst c15
       have H1 : (spec_l9Form.l1 kj3 x3_1 0 l0_0 l0_1) = some r := by rw [if_neg (show ¬ (false = true) by decide)] at H; exact H
       clear H
       have H := H1
       clear H1
       have H' := Aside0.mk H
       clear H
       go_wp2
       go_loopg [4] kj3 (fun kq v4 w' => ∃ (x4_3 : Int), v4 = .int .i64 x4_3 ∧ Aside0 (spec_l9Form.l1 kq x3_1 x4_3 l0_0 l0_1 = some r) ∧ Aside0 (kq ≤ kj3) ∧ Aside0 (w'.heap[gb288]? = some (.cells #[(.slice A0_0 l0_0.length c0_0), (.slice A0_1 l0_1.length c0_1)] 26 (0, 0))) ∧ Aside0 (Below w.heap.size w w'))
       case atStart => exact ⟨(0), (by first | rfl | (simp; done) | (simp [*]; done)), H', ⟨Nat.le_refl _⟩, ⟨by (with_reducible repeat (first | refine blk_drewN ?_ _ | refine blk_drew ?_ | refine blk_alloc ?_ _)); exact qn1.out⟩, ⟨by repeat (first | (with_reducible first | exact HB.out | apply below_alloc | apply pw_below_drewN | apply below_drew1 | refine below_set ?_ ql1.out) | exact HB.out)⟩⟩
       case round =>
        clear H'
        try clear c1
        try clear c2
        try clear p2
        try clear q2
        try clear hx2
        try clear c3
        try clear c3b0
        try clear c4
        try clear c6
        try clear c6b0
        try clear c8
        try clear c10
        try clear c10b0
        try clear c15
        try clear hcz11_0
        try clear hcz11_1
        try clear hcz13_0
        try clear hcz13_1
        try clear hcz14_0
        try clear hcz14_1
        try clear hcz5_0
        try clear hcz5_1
        try clear hfz11_0
        try clear hfz11_1
        try clear hfz13_0
        try clear hfz13_1
        try clear hfz14_0
        try clear hfz14_1
        try clear hfz5_0
        try clear hfz5_1
        try clear qi
        try clear qw
        try clear qm
        try clear qj1
        try clear qe1
        try clear qs
        try clear p2
        try clear p289
        try clear p291
        try clear p293
        try clear q2
        try clear q289
        try clear q291
        try clear q293
        obtain ⟨x4_3, rfl, HA, HK3, qn1, HB⟩ := hrel
        cases gk with
        | zero => exact absurd HA.out (by simp [spec_l9Form.l1])
        | succ k3 =>
         have H := HA.out
         clear HA
         simp only [spec_l9Form.l1] at H
         by_cases c16 : 0 ≤ x3_1
         ·rw [if_pos c16] at H
          have c16b0 : decide (0 ≤ x3_1) = true := decide_eq_true c16
          clear c16
          by_cases c17 : x3_1 < (l0_0.length : Int)
          ·rw [if_pos c17] at H
           have c17b0 : decide (x3_1 < (l0_0.length : Int)) = true := decide_eq_true c17
           clear c17
           by_cases c18 : x4_3 < (((rd_T32 l0_0 x3_1).f1).length : Int)
           ·rw [if_pos c18] at H
            have c18b0 : decide (x4_3 < (((rd_T32 l0_0 x3_1).f1).length : Int)) = true := decide_eq_true c18
            clear c18
            by_cases c19 : 0 ≤ x4_3
            ·rw [if_pos c19] at H
             have c19b0 : decide (0 ≤ x4_3) = true := decide_eq_true c19
             clear c19
             replace H := Option.bind_eq_some_iff.mp H
             obtain ⟨t298, A200, H⟩ := H
             replace H : (if t298 = true then ((spec_l9Name.f k3 ((rd_T36 ((rd_T32 l0_0 x3_1).f1) x4_3).f2.f0)).bind fun t301 => (if t301 = true then (spec_l9Form.l1 k3 x3_1 (wrap64 (x4_3 + 1)) l0_0 l0_1) else (some false))) else (some false)) = some r := H
             have A20 := Aside0.mk A200
             clear A200
             by_cases c21 : t298 = true
             ·subst c21
              have H1 : ((spec_l9Name.f k3 ((rd_T36 ((rd_T32 l0_0 x3_1).f1) x4_3).f2.f0)).bind fun t301 => (if t301 = true then (spec_l9Form.l1 k3 x3_1 (wrap64 (x4_3 + 1)) l0_0 l0_1) else (some false))) = some r := by rw [if_pos rfl] at H; exact H
              clear H
              have H := H1
              clear H1
              replace H := Option.bind_eq_some_iff.mp H
              obtain ⟨t301, A220, H⟩ := H
              replace H : (if t301 = true then (spec_l9Form.l1 k3 x3_1 (wrap64 (x4_3 + 1)) l0_0 l0_1) else (some false)) = some r := H
              have A22 := Aside0.mk A220
              clear A220
              by_cases c23 : t301 = true
              ·subst c23
               have H1 : (spec_l9Form.l1 k3 x3_1 (wrap64 (x4_3 + 1)) l0_0 l0_1) = some r := by rw [if_pos rfl] at H; exact H
               clear H
               have H := H1
               clear H1
               have H' := Aside0.mk H
               clear H
               have hcz24_0 : wr.cell? ⟨gb288, 0, none⟩ = some (.slice A0_0 l0_0.length c0_0) := (blk_cell qn1.out 0).trans rfl
               have hcz24_1 : wr.cell? ⟨gb288, 1, none⟩ = some (.slice A0_1 l0_1.length c0_1) := (blk_cell qn1.out 1).trans rfl
               have hfz24_0 := blk_frozen qn1.out 0
               have hfz24_1 := blk_frozen qn1.out 1
               have p295 : 0 ≤ (x3_1 : Int) := of_decide_eq_true (by first | (with_reducible assumption) | assumption)
               have q295 : x3_1 < (l0_0.length : Int) := of_decide_eq_true (by first | (with_reducible assumption) | assumption)
               obtain ⟨ad295, A295_1, c295_1, e295, qh1, qn, hl295_1, hi295_1⟩ := at_T32 HR0_0.out x3_1 p295 q295
               cases e295
               replace qh1 := (HB.out.cell (World.block_lt_of_cell? w _ qh1)).trans qh1
               replace qn := (HB.out.cell (World.block_lt_of_cell? w _ qn)).trans qn
               have HR295_1 := Aside0.mk hi295_1
               have HC295_1 := Aside0.mk hl295_1
               clear hi295_1 hl295_1
               replace p295 := eq_true p295
               replace q295 := eq_true q295
               have p296 : 0 ≤ (x3_1 : Int) := of_decide_eq_true (by first | (with_reducible assumption) | assumption)
               have q296 : x3_1 < (l0_0.length : Int) := of_decide_eq_true (by first | (with_reducible assumption) | assumption)
               obtain ⟨ad296, A296_1, c296_1, e296, qc, qi1, hl296_1, hi296_1⟩ := at_T32 HR0_0.out x3_1 p296 q296
               obtain rfl : ad295 = ad296 := (by injection e296)
               replace qc := (HB.out.cell (World.block_lt_of_cell? w _ qc)).trans qc
               replace qi1 := (HB.out.cell (World.block_lt_of_cell? w _ qi1)).trans qi1
               have HR296_1 := Aside0.mk hi296_1
               have HC296_1 := Aside0.mk hl296_1
               clear hi296_1 hl296_1
               replace p296 := eq_true p296
               replace q296 := eq_true q296
               have ea_ := Option.some.inj (qn.symm.trans qi1)
               injection ea_ with ea_ en_ ec_
               subst ea_
               subst ec_
               clear en_
               have p297 : 0 ≤ (x4_3 : Int) := of_decide_eq_true (by first | (with_reducible assumption) | assumption)
               have q297 : x4_3 < (((rd_T32 l0_0 x3_1).f1).length : Int) := of_decide_eq_true (by first | (with_reducible assumption) | assumption)
               obtain ⟨ad297, e297, qr, qj, qg, qe, qv, qa1⟩ := at_T36 HR296_1.out x4_3 p297 q297
               cases e297
               replace qr := (HB.out.cell (World.block_lt_of_cell? w _ qr)).trans qr
               replace qj := (HB.out.cell (World.block_lt_of_cell? w _ qj)).trans qj
               replace qg := (HB.out.cell (World.block_lt_of_cell? w _ qg)).trans qg
               replace qe := (HB.out.cell (World.block_lt_of_cell? w _ qe)).trans qe
               replace qv := (HB.out.cell (World.block_lt_of_cell? w _ qv)).trans qv
               replace qa1 := (HB.out.cell (World.block_lt_of_cell? w _ qa1)).trans qa1
               replace p297 := eq_true p297
               replace q297 := eq_true q297
               go_wp2_with (first | ((with_reducible refine gate_callee (f := 43) rfl ?_); refine goesL_ (some 64) rfl rfl Tryd.func43 (by kernel_rfl) rfl #[.string ((rd_T36 ((rd_T32 l0_0 x3_1).f1) x4_3).f0)] rfl (by (try simp only [List.map_toArray, List.map_cons, List.map_nil]); first | done | rfl | (simp only [List.length_drop, List.length_take]; rfl)) ?_; (with_reducible refine (spec_l9Name.calls k3 ((rd_T36 ((rd_T32 l0_0 x3_1).f1) x4_3).f0) true _ A20.out).mono ?_); rintro e w' ⟨rfl, ⟨nd, rfl⟩⟩; refine ⟨_, rfl, ?_⟩; have p299 : 0 ≤ (x3_1 : Int) := of_decide_eq_true (by first | (with_reducible assumption) | assumption); have q299 : x3_1 < (l0_0.length : Int) := of_decide_eq_true (by first | (with_reducible assumption) | assumption); obtain ⟨ad299, A299_1, c299_1, e299, qd1, qd, hl299_1, hi299_1⟩ := at_T32 HR0_0.out x3_1 p299 q299; obtain rfl : ad295 = ad299 := (by injection e299); replace qd1 := (HB.out.cell (World.block_lt_of_cell? w _ qd1)).trans qd1; replace qd := (HB.out.cell (World.block_lt_of_cell? w _ qd)).trans qd; have HR299_1 := Aside0.mk hi299_1; have HC299_1 := Aside0.mk hl299_1; clear hi299_1 hl299_1; replace p299 := eq_true p299; replace q299 := eq_true q299; have ea_ := Option.some.inj (qn.symm.trans qd); injection ea_ with ea_ en_ ec_; subst ea_; subst ec_; clear en_; have p300 : 0 ≤ (x4_3 : Int) := of_decide_eq_true (by first | (with_reducible assumption) | assumption); have q300 : x4_3 < (((rd_T32 l0_0 x3_1).f1).length : Int) := of_decide_eq_true (by first | (with_reducible assumption) | assumption); obtain ⟨ad300, e300, qf1, qa, qk1, qz, qq, qb⟩ := at_T36 HR299_1.out x4_3 p300 q300; cases e300; replace qf1 := (HB.out.cell (World.block_lt_of_cell? w _ qf1)).trans qf1; replace qa := (HB.out.cell (World.block_lt_of_cell? w _ qa)).trans qa; replace qk1 := (HB.out.cell (World.block_lt_of_cell? w _ qk1)).trans qk1; replace qz := (HB.out.cell (World.block_lt_of_cell? w _ qz)).trans qz; replace qq := (HB.out.cell (World.block_lt_of_cell? w _ qq)).trans qq; replace qb := (HB.out.cell (World.block_lt_of_cell? w _ qb)).trans qb; replace p300 := eq_true p300; replace q300 := eq_true q300) | (go_at_call 43; (with_reducible refine (spec_l9Name.calls k3 ((rd_T36 ((rd_T32 l0_0 x3_1).f1) x4_3).f2.f0) true _ A22.out).mono ?_); rintro e w' ⟨rfl, ⟨nd, rfl⟩⟩))
               go_roundg k3
               case measure => have := HK1.out; have := HJ3.out; have := HK3.out; omega
               case rel => exact ⟨(wrap64 (x4_3 + 1)), (by first | rfl | (simp; done) | (simp [*]; done)), H', ⟨by have := HK1.out; have := HJ3.out; have := HK3.out; omega⟩, ⟨by (with_reducible repeat (first | refine blk_drewN ?_ _ | refine blk_drew ?_ | refine blk_alloc ?_ _)); exact qn1.out⟩, ⟨by repeat (first | (with_reducible first | exact HB.out | apply below_alloc | apply pw_below_drewN | apply below_drew1 | refine below_set ?_ ql1.out) | exact HB.out)⟩⟩
              ·replace c23 := Bool.eq_false_iff.mpr c23
               subst c23
               have H1 : (some false) = some r := by rw [if_neg (show ¬ (false = true) by decide)] at H; exact H
               clear H
               have H := H1
               clear H1
               obtain rfl := Option.some.inj H
               have hcz25_0 : wr.cell? ⟨gb288, 0, none⟩ = some (.slice A0_0 l0_0.length c0_0) := (blk_cell qn1.out 0).trans rfl
               have hcz25_1 : wr.cell? ⟨gb288, 1, none⟩ = some (.slice A0_1 l0_1.length c0_1) := (blk_cell qn1.out 1).trans rfl
               have hfz25_0 := blk_frozen qn1.out 0
               have hfz25_1 := blk_frozen qn1.out 1
               have p295 : 0 ≤ (x3_1 : Int) := of_decide_eq_true (by first | (with_reducible assumption) | assumption)
               have q295 : x3_1 < (l0_0.length : Int) := of_decide_eq_true (by first | (with_reducible assumption) | assumption)
               obtain ⟨ad295, A295_1, c295_1, e295, qh1, qn, hl295_1, hi295_1⟩ := at_T32 HR0_0.out x3_1 p295 q295
               cases e295
               replace qh1 := (HB.out.cell (World.block_lt_of_cell? w _ qh1)).trans qh1
               replace qn := (HB.out.cell (World.block_lt_of_cell? w _ qn)).trans qn
               have HR295_1 := Aside0.mk hi295_1
               have HC295_1 := Aside0.mk hl295_1
               clear hi295_1 hl295_1
               replace p295 := eq_true p295
               replace q295 := eq_true q295
               have p296 : 0 ≤ (x3_1 : Int) := of_decide_eq_true (by first | (with_reducible assumption) | assumption)
               have q296 : x3_1 < (l0_0.length : Int) := of_decide_eq_true (by first | (with_reducible assumption) | assumption)
               obtain ⟨ad296, A296_1, c296_1, e296, qc, qi1, hl296_1, hi296_1⟩ := at_T32 HR0_0.out x3_1 p296 q296
               obtain rfl : ad295 = ad296 := (by injection e296)
               replace qc := (HB.out.cell (World.block_lt_of_cell? w _ qc)).trans qc
               replace qi1 := (HB.out.cell (World.block_lt_of_cell? w _ qi1)).trans qi1
               have HR296_1 := Aside0.mk hi296_1
               have HC296_1 := Aside0.mk hl296_1
               clear hi296_1 hl296_1
               replace p296 := eq_true p296
               replace q296 := eq_true q296
               have ea_ := Option.some.inj (qn.symm.trans qi1)
               injection ea_ with ea_ en_ ec_
               subst ea_
               subst ec_
               clear en_
               have p297 : 0 ≤ (x4_3 : Int) := of_decide_eq_true (by first | (with_reducible assumption) | assumption)
               have q297 : x4_3 < (((rd_T32 l0_0 x3_1).f1).length : Int) := of_decide_eq_true (by first | (with_reducible assumption) | assumption)
               obtain ⟨ad297, e297, qr, qj, qg, qe, qv, qa1⟩ := at_T36 HR296_1.out x4_3 p297 q297
               cases e297
               replace qr := (HB.out.cell (World.block_lt_of_cell? w _ qr)).trans qr
               replace qj := (HB.out.cell (World.block_lt_of_cell? w _ qj)).trans qj
               replace qg := (HB.out.cell (World.block_lt_of_cell? w _ qg)).trans qg
               replace qe := (HB.out.cell (World.block_lt_of_cell? w _ qe)).trans qe
               replace qv := (HB.out.cell (World.block_lt_of_cell? w _ qv)).trans qv
               replace qa1 := (HB.out.cell (World.block_lt_of_cell? w _ qa1)).trans qa1
               replace p297 := eq_true p297
               replace q297 := eq_true q297
               go_wp2_with (first | ((with_reducible refine gate_callee (f := 43) rfl ?_); refine goesL_ (some 64) rfl rfl Tryd.func43 (by kernel_rfl) rfl #[.string ((rd_T36 ((rd_T32 l0_0 x3_1).f1) x4_3).f0)] rfl (by (try simp only [List.map_toArray, List.map_cons, List.map_nil]); first | done | rfl | (simp only [List.length_drop, List.length_take]; rfl)) ?_; (with_reducible refine (spec_l9Name.calls k3 ((rd_T36 ((rd_T32 l0_0 x3_1).f1) x4_3).f0) true _ A20.out).mono ?_); rintro e w' ⟨rfl, ⟨nd, rfl⟩⟩; refine ⟨_, rfl, ?_⟩; have p299 : 0 ≤ (x3_1 : Int) := of_decide_eq_true (by first | (with_reducible assumption) | assumption); have q299 : x3_1 < (l0_0.length : Int) := of_decide_eq_true (by first | (with_reducible assumption) | assumption); obtain ⟨ad299, A299_1, c299_1, e299, qd1, qd, hl299_1, hi299_1⟩ := at_T32 HR0_0.out x3_1 p299 q299; obtain rfl : ad295 = ad299 := (by injection e299); replace qd1 := (HB.out.cell (World.block_lt_of_cell? w _ qd1)).trans qd1; replace qd := (HB.out.cell (World.block_lt_of_cell? w _ qd)).trans qd; have HR299_1 := Aside0.mk hi299_1; have HC299_1 := Aside0.mk hl299_1; clear hi299_1 hl299_1; replace p299 := eq_true p299; replace q299 := eq_true q299; have ea_ := Option.some.inj (qn.symm.trans qd); injection ea_ with ea_ en_ ec_; subst ea_; subst ec_; clear en_; have p300 : 0 ≤ (x4_3 : Int) := of_decide_eq_true (by first | (with_reducible assumption) | assumption); have q300 : x4_3 < (((rd_T32 l0_0 x3_1).f1).length : Int) := of_decide_eq_true (by first | (with_reducible assumption) | assumption); obtain ⟨ad300, e300, qf1, qa, qk1, qz, qq, qb⟩ := at_T36 HR299_1.out x4_3 p300 q300; cases e300; replace qf1 := (HB.out.cell (World.block_lt_of_cell? w _ qf1)).trans qf1; replace qa := (HB.out.cell (World.block_lt_of_cell? w _ qa)).trans qa; replace qk1 := (HB.out.cell (World.block_lt_of_cell? w _ qk1)).trans qk1; replace qz := (HB.out.cell (World.block_lt_of_cell? w _ qz)).trans qz; replace qq := (HB.out.cell (World.block_lt_of_cell? w _ qq)).trans qq; replace qb := (HB.out.cell (World.block_lt_of_cell? w _ qb)).trans qb; replace p300 := eq_true p300; replace q300 := eq_true q300) | (go_at_call 43; (with_reducible refine (spec_l9Name.calls k3 ((rd_T36 ((rd_T32 l0_0 x3_1).f1) x4_3).f2.f0) false _ A22.out).mono ?_); rintro e w' ⟨rfl, ⟨nd, rfl⟩⟩))
               go_ret
               exact ⟨by first | rfl | (simp [errW_none, errW_some] <;> rfl) | (simp [*, errW_none, errW_some] <;> rfl) | (simp only [Bool.and_eq_true, beq_iff_eq, Bool.not_eq_true', Bool.not_eq_eq_eq_not, Bool.not_true, Bool.not_false] at *; simp [*]), by repeat (first | (with_reducible first | exact HB.out | apply below_alloc | apply pw_below_drewN | apply below_drew1 | refine below_set ?_ ql1.out) | exact HB.out)⟩
             ·replace c21 := Bool.eq_false_iff.mpr c21
              subst c21
              have H1 : (some false) = some r := by rw [if_neg (show ¬ (false = true) by decide)] at H; exact H
              clear H
              have H := H1
              clear H1
              obtain rfl := Option.some.inj H
              have hcz26_0 : wr.cell? ⟨gb288, 0, none⟩ = some (.slice A0_0 l0_0.length c0_0) := (blk_cell qn1.out 0).trans rfl
              have hcz26_1 : wr.cell? ⟨gb288, 1, none⟩ = some (.slice A0_1 l0_1.length c0_1) := (blk_cell qn1.out 1).trans rfl
              have hfz26_0 := blk_frozen qn1.out 0
              have hfz26_1 := blk_frozen qn1.out 1
              have p295 : 0 ≤ (x3_1 : Int) := of_decide_eq_true (by first | (with_reducible assumption) | assumption)
              have q295 : x3_1 < (l0_0.length : Int) := of_decide_eq_true (by first | (with_reducible assumption) | assumption)
              obtain ⟨ad295, A295_1, c295_1, e295, qh1, qn, hl295_1, hi295_1⟩ := at_T32 HR0_0.out x3_1 p295 q295
              cases e295
              replace qh1 := (HB.out.cell (World.block_lt_of_cell? w _ qh1)).trans qh1
              replace qn := (HB.out.cell (World.block_lt_of_cell? w _ qn)).trans qn
              have HR295_1 := Aside0.mk hi295_1
              have HC295_1 := Aside0.mk hl295_1
              clear hi295_1 hl295_1
              replace p295 := eq_true p295
              replace q295 := eq_true q295
              have p296 : 0 ≤ (x3_1 : Int) := of_decide_eq_true (by first | (with_reducible assumption) | assumption)
              have q296 : x3_1 < (l0_0.length : Int) := of_decide_eq_true (by first | (with_reducible assumption) | assumption)
              obtain ⟨ad296, A296_1, c296_1, e296, qc, qi1, hl296_1, hi296_1⟩ := at_T32 HR0_0.out x3_1 p296 q296
              obtain rfl : ad295 = ad296 := (by injection e296)
              replace qc := (HB.out.cell (World.block_lt_of_cell? w _ qc)).trans qc
              replace qi1 := (HB.out.cell (World.block_lt_of_cell? w _ qi1)).trans qi1
              have HR296_1 := Aside0.mk hi296_1
              have HC296_1 := Aside0.mk hl296_1
              clear hi296_1 hl296_1
              replace p296 := eq_true p296
              replace q296 := eq_true q296
              have ea_ := Option.some.inj (qn.symm.trans qi1)
              injection ea_ with ea_ en_ ec_
              subst ea_
              subst ec_
              clear en_
              have p297 : 0 ≤ (x4_3 : Int) := of_decide_eq_true (by first | (with_reducible assumption) | assumption)
              have q297 : x4_3 < (((rd_T32 l0_0 x3_1).f1).length : Int) := of_decide_eq_true (by first | (with_reducible assumption) | assumption)
              obtain ⟨ad297, e297, qr, qj, qg, qe, qv, qa1⟩ := at_T36 HR296_1.out x4_3 p297 q297
              cases e297
              replace qr := (HB.out.cell (World.block_lt_of_cell? w _ qr)).trans qr
              replace qj := (HB.out.cell (World.block_lt_of_cell? w _ qj)).trans qj
              replace qg := (HB.out.cell (World.block_lt_of_cell? w _ qg)).trans qg
              replace qe := (HB.out.cell (World.block_lt_of_cell? w _ qe)).trans qe
              replace qv := (HB.out.cell (World.block_lt_of_cell? w _ qv)).trans qv
              replace qa1 := (HB.out.cell (World.block_lt_of_cell? w _ qa1)).trans qa1
              replace p297 := eq_true p297
              replace q297 := eq_true q297
              go_wp2_with (first | ((with_reducible refine gate_callee (f := 43) rfl ?_); refine goesL_ (some 64) rfl rfl Tryd.func43 (by kernel_rfl) rfl #[.string ((rd_T36 ((rd_T32 l0_0 x3_1).f1) x4_3).f0)] rfl (by (try simp only [List.map_toArray, List.map_cons, List.map_nil]); first | done | rfl | (simp only [List.length_drop, List.length_take]; rfl)) ?_; (with_reducible refine (spec_l9Name.calls k3 ((rd_T36 ((rd_T32 l0_0 x3_1).f1) x4_3).f0) false _ A20.out).mono ?_); rintro e w' ⟨rfl, ⟨nd, rfl⟩⟩; refine ⟨_, rfl, ?_⟩))
              go_ret
              exact ⟨by first | rfl | (simp [errW_none, errW_some] <;> rfl) | (simp [*, errW_none, errW_some] <;> rfl) | (simp only [Bool.and_eq_true, beq_iff_eq, Bool.not_eq_true', Bool.not_eq_eq_eq_not, Bool.not_true, Bool.not_false] at *; simp [*]), by repeat (first | (with_reducible first | exact HB.out | apply below_alloc | apply pw_below_drewN | apply below_drew1 | refine below_set ?_ ql1.out) | exact HB.out)⟩
            ·rw [if_neg c19] at H
             exact absurd H (by simp)
           ·rw [if_neg c18] at H
            have c18b0 : decide (x4_3 < (((rd_T32 l0_0 x3_1).f1).length : Int)) = false := decide_eq_false c18
            clear c18
            have H' := Aside0.mk H
            clear H
            have hcz27_0 : wr.cell? ⟨gb288, 0, none⟩ = some (.slice A0_0 l0_0.length c0_0) := (blk_cell qn1.out 0).trans rfl
            have hcz27_1 : wr.cell? ⟨gb288, 1, none⟩ = some (.slice A0_1 l0_1.length c0_1) := (blk_cell qn1.out 1).trans rfl
            have hfz27_0 := blk_frozen qn1.out 0
            have hfz27_1 := blk_frozen qn1.out 1
            have p295 : 0 ≤ (x3_1 : Int) := of_decide_eq_true (by first | (with_reducible assumption) | assumption)
            have q295 : x3_1 < (l0_0.length : Int) := of_decide_eq_true (by first | (with_reducible assumption) | assumption)
            obtain ⟨ad295, A295_1, c295_1, e295, qh1, qn, hl295_1, hi295_1⟩ := at_T32 HR0_0.out x3_1 p295 q295
            cases e295
            replace qh1 := (HB.out.cell (World.block_lt_of_cell? w _ qh1)).trans qh1
            replace qn := (HB.out.cell (World.block_lt_of_cell? w _ qn)).trans qn
            have HR295_1 := Aside0.mk hi295_1
            have HC295_1 := Aside0.mk hl295_1
            clear hi295_1 hl295_1
            replace p295 := eq_true p295
            replace q295 := eq_true q295
            go_wp2
            go_roundg k3
            case measure => have := HK1.out; have := HJ3.out; have := HK3.out; omega
            case rel => exact ⟨(wrap64 (x3_1 + 1)), (by first | rfl | (simp; done) | (simp [*]; done)), H', ⟨by have := HK1.out; have := HJ3.out; have := HK3.out; omega⟩, ⟨by (with_reducible repeat (first | refine blk_drewN ?_ _ | refine blk_drew ?_ | refine blk_alloc ?_ _)); exact qn1.out⟩, ⟨by repeat (first | (with_reducible first | exact HB.out | apply below_alloc | apply pw_below_drewN | apply below_drew1 | refine below_set ?_ ql1.out) | exact HB.out)⟩⟩
          ·rw [if_neg c17] at H
           exact absurd H (by simp)
         ·rw [if_neg c16] at H
          exact absurd H (by simp)
   ·rw [if_neg c3] at H
    have c3b0 : decide (x3_1 < (l0_0.length : Int)) = false := decide_eq_false c3
    clear c3
    have H' := Aside0.mk H
    clear H
    have hcz28_0 : wr.cell? ⟨gb288, 0, none⟩ = some (.slice A0_0 l0_0.length c0_0) := (blk_cell qn1.out 0).trans rfl
    have hcz28_1 : wr.cell? ⟨gb288, 1, none⟩ = some (.slice A0_1 l0_1.length c0_1) := (blk_cell qn1.out 1).trans rfl
    have hfz28_0 := blk_frozen qn1.out 0
    have hfz28_1 := blk_frozen qn1.out 1
    go_wp2
    go_loopg [5] k1 (fun kq v5 w' => ∃ (x5_2 : Int), v5 = .int .i64 x5_2 ∧ Aside0 (spec_l9Form.l2 kq x5_2 l0_0 l0_1 = some r) ∧ Aside0 (kq ≤ k1) ∧ Aside0 (w'.heap[gb288]? = some (.cells #[(.slice A0_0 l0_0.length c0_0), (.slice A0_1 l0_1.length c0_1)] 26 (0, 0))) ∧ Aside0 (Below w.heap.size w w'))
    case atStart => exact ⟨(0), (by first | rfl | (simp; done) | (simp [*]; done)), H', ⟨Nat.le_refl _⟩, ⟨by (with_reducible repeat (first | refine blk_drewN ?_ _ | refine blk_drew ?_ | refine blk_alloc ?_ _)); exact qn1.out⟩, ⟨by repeat (first | (with_reducible first | exact HB.out | apply below_alloc | apply pw_below_drewN | apply below_drew1 | refine below_set ?_ ql1.out) | exact HB.out)⟩⟩
    case round =>
     clear H'
     try clear c1
     try clear c2
     try clear p2
     try clear q2
     try clear hx2
     try clear c3
     try clear c3b0
     try clear p3
     try clear q3
     try clear hx3
     try clear c4
     try clear c6
     try clear c6b0
     try clear p6
     try clear c8
     try clear c10
     try clear c10b0
     try clear c15
     try clear c16
     try clear c16b0
     try clear c17
     try clear c17b0
     try clear c18
     try clear c18b0
     try clear c19
     try clear c19b0
     try clear c20
     try clear c21
     try clear c23
     try clear c28
     try clear p28
     try clear q28
     try clear hx28
     try clear hcz11_0
     try clear hcz11_1
     try clear hcz13_0
     try clear hcz13_1
     try clear hcz14_0
     try clear hcz14_1
     try clear hcz24_0
     try clear hcz24_1
     try clear hcz25_0
     try clear hcz25_1
     try clear hcz26_0
     try clear hcz26_1
     try clear hcz27_0
     try clear hcz27_1
     try clear hcz28_0
     try clear hcz28_1
     try clear hcz5_0
     try clear hcz5_1
     try clear hfz11_0
     try clear hfz11_1
     try clear hfz13_0
     try clear hfz13_1
     try clear hfz14_0
     try clear hfz14_1
     try clear hfz24_0
     try clear hfz24_1
     try clear hfz25_0
     try clear hfz25_1
     try clear hfz26_0
     try clear hfz26_1
     try clear hfz27_0
     try clear hfz27_1
     try clear hfz28_0
     try clear hfz28_1
     try clear hfz5_0
     try clear hfz5_1
     try clear qi
     try clear qw
     try clear qm
     try clear qj1
     try clear qe1
     try clear qs
     try clear qh1
     try clear qn
     try clear qc
     try clear qi1
     try clear qr
     try clear qj
     try clear qg
     try clear qe
     try clear qv
     try clear qa1
     try clear qd1
     try clear qd
     try clear qf1
     try clear qa
     try clear qk1
     try clear qz
     try clear qq
     try clear qb
     try clear p2
     try clear p289
     try clear p291
     try clear p293
     try clear p295
     try clear p296
     try clear p297
     try clear p299
     try clear p300
     try clear q2
     try clear q289
     try clear q291
     try clear q293
     try clear q295
     try clear q296
     try clear q297
     try clear q299
     try clear q300
     obtain ⟨x5_2, rfl, HA, HK2, qn1, HB⟩ := hrel
     cases gk with
     | zero => exact absurd HA.out (by simp [spec_l9Form.l2])
     | succ k2 =>
      have H := HA.out
      clear HA
      simp only [spec_l9Form.l2] at H
      by_cases c29 : x5_2 < (l0_1.length : Int)
      ·rw [if_pos c29] at H
       have c29b0 : decide (x5_2 < (l0_1.length : Int)) = true := decide_eq_true c29
       clear c29
       have HC30 := Aside0.mk H
       clear H
       have hcz31_0 : wr.cell? ⟨gb288, 0, none⟩ = some (.slice A0_0 l0_0.length c0_0) := (blk_cell qn1.out 0).trans rfl
       have hcz31_1 : wr.cell? ⟨gb288, 1, none⟩ = some (.slice A0_1 l0_1.length c0_1) := (blk_cell qn1.out 1).trans rfl
       have hfz31_0 := blk_frozen qn1.out 0
       have hfz31_1 := blk_frozen qn1.out 1
       go_upto_region 14 with (fail)
       go_cut [116] (fun v116 wc => ∃ (kq : Nat) (x116_29 : Bool), v116 = .bool x116_29 ∧ Aside0 (spec_l9Form.j4 kq x5_2 x116_29 l0_0 l0_1 = some r) ∧ Aside0 (kq ≤ k2) ∧ Aside0 (wc.heap[gb288]? = some (.cells #[(.slice A0_0 l0_0.length c0_0), (.slice A0_1 l0_1.length c0_1)] 26 (0, 0))) ∧ Aside0 (Below w.heap.size w wc))
       case first =>
        have H := HC30.out
        clear HC30
        by_cases c32 : 0 ≤ x5_2
        ·rw [if_pos c32] at H
         have c32b0 : decide (0 ≤ x5_2) = true := decide_eq_true c32
         clear c32
         (first | rw [c32b0] | (simp only [i64_w, i32_w]; rw [c32b0]) | skip)
         replace H := Option.bind_eq_some_iff.mp H
         obtain ⟨t304, A330, H⟩ := H
         replace H : (if t304 = true then ((spec_l9Size.f ((rd_T65 l0_1 x5_2).f0)).bind fun t306 => (if t306 > 0 then (spec_l9Form.j4 k2 x5_2 true l0_0 l0_1) else ((spec_l1In.f (((rd_T65 l0_1 x5_2).f1).length : Int) 1 8).bind fun t308 => (spec_l9Form.j4 k2 x5_2 (!t308) l0_0 l0_1)))) else (spec_l9Form.j4 k2 x5_2 true l0_0 l0_1)) = some r := H
         have A33 := Aside0.mk A330
         clear A330
         by_cases c34 : t304 = true
         ·subst c34
          have H1 : ((spec_l9Size.f ((rd_T65 l0_1 x5_2).f0)).bind fun t306 => (if t306 > 0 then (spec_l9Form.j4 k2 x5_2 true l0_0 l0_1) else ((spec_l1In.f (((rd_T65 l0_1 x5_2).f1).length : Int) 1 8).bind fun t308 => (spec_l9Form.j4 k2 x5_2 (!t308) l0_0 l0_1)))) = some r := by rw [if_pos rfl] at H; exact H
          clear H
          have H := H1
          clear H1
          replace H := Option.bind_eq_some_iff.mp H
          obtain ⟨t306, A350, H⟩ := H
          replace H : (if t306 > 0 then (spec_l9Form.j4 k2 x5_2 true l0_0 l0_1) else ((spec_l1In.f (((rd_T65 l0_1 x5_2).f1).length : Int) 1 8).bind fun t308 => (spec_l9Form.j4 k2 x5_2 (!t308) l0_0 l0_1))) = some r := H
          have A35 := Aside0.mk A350
          clear A350
          by_cases c36 : t306 > 0
          ·rw [if_pos c36] at H
           have c36b0 : decide (0 < t306) = true := decide_eq_true c36
           clear c36
           have H' := Aside0.mk H
           clear H
           have hcz37_0 : wr.cell? ⟨gb288, 0, none⟩ = some (.slice A0_0 l0_0.length c0_0) := (blk_cell qn1.out 0).trans rfl
           have hcz37_1 : wr.cell? ⟨gb288, 1, none⟩ = some (.slice A0_1 l0_1.length c0_1) := (blk_cell qn1.out 1).trans rfl
           have hfz37_0 := blk_frozen qn1.out 0
           have hfz37_1 := blk_frozen qn1.out 1
           have p303 : 0 ≤ (x5_2 : Int) := of_decide_eq_true (by first | (with_reducible assumption) | assumption)
           have q303 : x5_2 < (l0_1.length : Int) := of_decide_eq_true (by first | (with_reducible assumption) | assumption)
           obtain ⟨ad303, A303_1, c303_1, e303, qy, qo, hl303_1, hi303_1⟩ := at_T65 HR0_1.out x5_2 p303 q303
           cases e303
           replace qy := (HB.out.cell (World.block_lt_of_cell? w _ qy)).trans qy
           replace qo := (HB.out.cell (World.block_lt_of_cell? w _ qo)).trans qo
           have HR303_1 := Aside0.mk hi303_1
           have HC303_1 := Aside0.mk hl303_1
           clear hi303_1 hl303_1
           replace p303 := eq_true p303
           replace q303 := eq_true q303
           go_wp2_with (first | ((with_reducible refine gate_callee (f := 43) rfl ?_); refine goesL_ (some 94) rfl rfl Tryd.func43 (by kernel_rfl) rfl #[.string ((rd_T65 l0_1 x5_2).f0)] rfl (by (try simp only [List.map_toArray, List.map_cons, List.map_nil]); first | done | rfl | (simp only [List.length_drop, List.length_take]; rfl)) ?_; (with_reducible refine (spec_l9Name.calls k2 ((rd_T65 l0_1 x5_2).f0) true _ A33.out).mono ?_); rintro e w' ⟨rfl, ⟨nd, rfl⟩⟩; refine ⟨_, rfl, ?_⟩; have p305 : 0 ≤ (x5_2 : Int) := of_decide_eq_true (by first | (with_reducible assumption) | assumption); have q305 : x5_2 < (l0_1.length : Int) := of_decide_eq_true (by first | (with_reducible assumption) | assumption); obtain ⟨ad305, A305_1, c305_1, e305, qt, qp, hl305_1, hi305_1⟩ := at_T65 HR0_1.out x5_2 p305 q305; obtain rfl : ad303 = ad305 := (by injection e305); replace qt := (HB.out.cell (World.block_lt_of_cell? w _ qt)).trans qt; replace qp := (HB.out.cell (World.block_lt_of_cell? w _ qp)).trans qp; have HR305_1 := Aside0.mk hi305_1; have HC305_1 := Aside0.mk hl305_1; clear hi305_1 hl305_1; replace p305 := eq_true p305; replace q305 := eq_true q305; have ea_ := Option.some.inj (qo.symm.trans qp); injection ea_ with ea_ en_ ec_; subst ea_; subst ec_; clear en_) | (go_at_call 44; (with_reducible refine (spec_l9Size.calls ((rd_T65 l0_1 x5_2).f0) t306 _ A35.out).mono ?_); rintro e w' ⟨rfl, ⟨nd, rfl⟩⟩))
           go_meet
           case rel => exact ⟨_, (true), (by first | rfl | (simp; done) | (simp [*]; done)), H', ⟨by have := HK1.out; have := HK2.out; first | omega | exact Nat.le_refl _⟩, ⟨by (with_reducible repeat (first | refine blk_drewN ?_ _ | refine blk_drew ?_ | refine blk_alloc ?_ _)); exact qn1.out⟩, ⟨by repeat (first | (with_reducible first | exact HB.out | apply below_alloc | apply pw_below_drewN | apply below_drew1 | refine below_set ?_ ql1.out) | exact HB.out)⟩⟩
          ·rw [if_neg c36] at H
           have c36b0 : decide (0 < t306) = false := decide_eq_false c36
           clear c36
           replace H := Option.bind_eq_some_iff.mp H
           obtain ⟨t308, A380, H⟩ := H
           replace H : (spec_l9Form.j4 k2 x5_2 (!t308) l0_0 l0_1) = some r := H
           have A38 := Aside0.mk A380
           clear A380
           have H' := Aside0.mk H
           clear H
           have hcz39_0 : wr.cell? ⟨gb288, 0, none⟩ = some (.slice A0_0 l0_0.length c0_0) := (blk_cell qn1.out 0).trans rfl
           have hcz39_1 : wr.cell? ⟨gb288, 1, none⟩ = some (.slice A0_1 l0_1.length c0_1) := (blk_cell qn1.out 1).trans rfl
           have hfz39_0 := blk_frozen qn1.out 0
           have hfz39_1 := blk_frozen qn1.out 1
           have p303 : 0 ≤ (x5_2 : Int) := of_decide_eq_true (by first | (with_reducible assumption) | assumption)
           have q303 : x5_2 < (l0_1.length : Int) := of_decide_eq_true (by first | (with_reducible assumption) | assumption)
           obtain ⟨ad303, A303_1, c303_1, e303, qy, qo, hl303_1, hi303_1⟩ := at_T65 HR0_1.out x5_2 p303 q303
           cases e303
           replace qy := (HB.out.cell (World.block_lt_of_cell? w _ qy)).trans qy
           replace qo := (HB.out.cell (World.block_lt_of_cell? w _ qo)).trans qo
           have HR303_1 := Aside0.mk hi303_1
           have HC303_1 := Aside0.mk hl303_1
           clear hi303_1 hl303_1
           replace p303 := eq_true p303
           replace q303 := eq_true q303
           go_wp2_with (first | ((with_reducible refine gate_callee (f := 43) rfl ?_); refine goesL_ (some 94) rfl rfl Tryd.func43 (by kernel_rfl) rfl #[.string ((rd_T65 l0_1 x5_2).f0)] rfl (by (try simp only [List.map_toArray, List.map_cons, List.map_nil]); first | done | rfl | (simp only [List.length_drop, List.length_take]; rfl)) ?_; (with_reducible refine (spec_l9Name.calls k2 ((rd_T65 l0_1 x5_2).f0) true _ A33.out).mono ?_); rintro e w' ⟨rfl, ⟨nd, rfl⟩⟩; refine ⟨_, rfl, ?_⟩; have p305 : 0 ≤ (x5_2 : Int) := of_decide_eq_true (by first | (with_reducible assumption) | assumption); have q305 : x5_2 < (l0_1.length : Int) := of_decide_eq_true (by first | (with_reducible assumption) | assumption); obtain ⟨ad305, A305_1, c305_1, e305, qt, qp, hl305_1, hi305_1⟩ := at_T65 HR0_1.out x5_2 p305 q305; obtain rfl : ad303 = ad305 := (by injection e305); replace qt := (HB.out.cell (World.block_lt_of_cell? w _ qt)).trans qt; replace qp := (HB.out.cell (World.block_lt_of_cell? w _ qp)).trans qp; have HR305_1 := Aside0.mk hi305_1; have HC305_1 := Aside0.mk hl305_1; clear hi305_1 hl305_1; replace p305 := eq_true p305; replace q305 := eq_true q305; have ea_ := Option.some.inj (qo.symm.trans qp); injection ea_ with ea_ en_ ec_; subst ea_; subst ec_; clear en_) | (go_at_call 44; (with_reducible refine (spec_l9Size.calls ((rd_T65 l0_1 x5_2).f0) t306 _ A35.out).mono ?_); rintro e w' ⟨rfl, ⟨nd, rfl⟩⟩; have p307 : 0 ≤ (x5_2 : Int) := of_decide_eq_true (by first | (with_reducible assumption) | assumption); have q307 : x5_2 < (l0_1.length : Int) := of_decide_eq_true (by first | (with_reducible assumption) | assumption); obtain ⟨ad307, A307_1, c307_1, e307, ql, qg1, hl307_1, hi307_1⟩ := at_T65 HR0_1.out x5_2 p307 q307; obtain rfl : ad303 = ad307 := (by injection e307); replace ql := (HB.out.cell (World.block_lt_of_cell? w _ ql)).trans ql; replace qg1 := (HB.out.cell (World.block_lt_of_cell? w _ qg1)).trans qg1; have HR307_1 := Aside0.mk hi307_1; have HC307_1 := Aside0.mk hl307_1; clear hi307_1 hl307_1; replace p307 := eq_true p307; replace q307 := eq_true q307; have ea_ := Option.some.inj (qo.symm.trans qg1); injection ea_ with ea_ en_ ec_; subst ea_; subst ec_; clear en_) | (go_at_call 45; (with_reducible refine (spec_l1In.calls (((rd_T65 l0_1 x5_2).f1).length : Int) 1 8 t308 _ A38.out).mono ?_); rintro e w' ⟨rfl, ⟨nd, rfl⟩⟩))
           go_meet
           case rel => exact ⟨_, (!t308), (by first | rfl | (simp; done) | (simp [*]; done)), H', ⟨by have := HK1.out; have := HK2.out; first | omega | exact Nat.le_refl _⟩, ⟨by (with_reducible repeat (first | refine blk_drewN ?_ _ | refine blk_drew ?_ | refine blk_alloc ?_ _)); exact qn1.out⟩, ⟨by repeat (first | (with_reducible first | exact HB.out | apply below_alloc | apply pw_below_drewN | apply below_drew1 | refine below_set ?_ ql1.out) | exact HB.out)⟩⟩
         ·replace c34 := Bool.eq_false_iff.mpr c34
          subst c34
          have H1 : (spec_l9Form.j4 k2 x5_2 true l0_0 l0_1) = some r := by rw [if_neg (show ¬ (false = true) by decide)] at H; exact H
          clear H
          have H := H1
          clear H1
          have H' := Aside0.mk H
          clear H
          have hcz40_0 : wr.cell? ⟨gb288, 0, none⟩ = some (.slice A0_0 l0_0.length c0_0) := (blk_cell qn1.out 0).trans rfl
          have hcz40_1 : wr.cell? ⟨gb288, 1, none⟩ = some (.slice A0_1 l0_1.length c0_1) := (blk_cell qn1.out 1).trans rfl
          have hfz40_0 := blk_frozen qn1.out 0
          have hfz40_1 := blk_frozen qn1.out 1
          have p303 : 0 ≤ (x5_2 : Int) := of_decide_eq_true (by first | (with_reducible assumption) | assumption)
          have q303 : x5_2 < (l0_1.length : Int) := of_decide_eq_true (by first | (with_reducible assumption) | assumption)
          obtain ⟨ad303, A303_1, c303_1, e303, qy, qo, hl303_1, hi303_1⟩ := at_T65 HR0_1.out x5_2 p303 q303
          cases e303
          replace qy := (HB.out.cell (World.block_lt_of_cell? w _ qy)).trans qy
          replace qo := (HB.out.cell (World.block_lt_of_cell? w _ qo)).trans qo
          have HR303_1 := Aside0.mk hi303_1
          have HC303_1 := Aside0.mk hl303_1
          clear hi303_1 hl303_1
          replace p303 := eq_true p303
          replace q303 := eq_true q303
          go_wp2_with (first | ((with_reducible refine gate_callee (f := 43) rfl ?_); refine goesL_ (some 94) rfl rfl Tryd.func43 (by kernel_rfl) rfl #[.string ((rd_T65 l0_1 x5_2).f0)] rfl (by (try simp only [List.map_toArray, List.map_cons, List.map_nil]); first | done | rfl | (simp only [List.length_drop, List.length_take]; rfl)) ?_; (with_reducible refine (spec_l9Name.calls k2 ((rd_T65 l0_1 x5_2).f0) false _ A33.out).mono ?_); rintro e w' ⟨rfl, ⟨nd, rfl⟩⟩; refine ⟨_, rfl, ?_⟩))
          go_meet
          case rel => exact ⟨_, (true), (by first | rfl | (simp; done) | (simp [*]; done)), H', ⟨by have := HK1.out; have := HK2.out; first | omega | exact Nat.le_refl _⟩, ⟨by (with_reducible repeat (first | refine blk_drewN ?_ _ | refine blk_drew ?_ | refine blk_alloc ?_ _)); exact qn1.out⟩, ⟨by repeat (first | (with_reducible first | exact HB.out | apply below_alloc | apply pw_below_drewN | apply below_drew1 | refine below_set ?_ ql1.out) | exact HB.out)⟩⟩
        ·rw [if_neg c32] at H
         exact absurd H (by simp)
       case rest =>
        clear HC30
        try clear c1
        try clear c2
        try clear p2
        try clear q2
        try clear hx2
        try clear c3
        try clear c3b0
        try clear p3
        try clear q3
        try clear hx3
        try clear c4
        try clear c6
        try clear c6b0
        try clear p6
        try clear c8
        try clear c10
        try clear c10b0
        try clear c15
        try clear c16
        try clear c16b0
        try clear c17
        try clear c17b0
        try clear c18
        try clear c18b0
        try clear c19
        try clear c19b0
        try clear c20
        try clear c21
        try clear c23
        try clear c28
        try clear p28
        try clear q28
        try clear hx28
        try clear c29
        try clear c29b0
        try clear p29
        try clear q29
        try clear hx29
        try clear c30
        try clear p30
        try clear q30
        try clear hx30
        try clear c32
        try clear c32b0
        try clear c34
        try clear c36
        try clear c36b0
        try clear hcz11_0
        try clear hcz11_1
        try clear hcz13_0
        try clear hcz13_1
        try clear hcz14_0
        try clear hcz14_1
        try clear hcz24_0
        try clear hcz24_1
        try clear hcz25_0
        try clear hcz25_1
        try clear hcz26_0
        try clear hcz26_1
        try clear hcz27_0
        try clear hcz27_1
        try clear hcz28_0
        try clear hcz28_1
        try clear hcz31_0
        try clear hcz31_1
        try clear hcz37_0
        try clear hcz37_1
        try clear hcz39_0
        try clear hcz39_1
        try clear hcz40_0
        try clear hcz40_1
        try clear hcz5_0
        try clear hcz5_1
        try clear hfz11_0
        try clear hfz11_1
        try clear hfz13_0
        try clear hfz13_1
        try clear hfz14_0
        try clear hfz14_1
        try clear hfz24_0
        try clear hfz24_1
        try clear hfz25_0
        try clear hfz25_1
        try clear hfz26_0
        try clear hfz26_1
        try clear hfz27_0
        try clear hfz27_1
        try clear hfz28_0
        try clear hfz28_1
        try clear hfz31_0
        try clear hfz31_1
        try clear hfz37_0
        try clear hfz37_1
        try clear hfz39_0
        try clear hfz39_1
        try clear hfz40_0
        try clear hfz40_1
        try clear hfz5_0
        try clear hfz5_1
        try clear qi
        try clear qw
        try clear qm
        try clear qj1
        try clear qe1
        try clear qs
        try clear qh1
        try clear qn
        try clear qc
        try clear qi1
        try clear qr
        try clear qj
        try clear qg
        try clear qe
        try clear qv
        try clear qa1
        try clear qd1
        try clear qd
        try clear qf1
        try clear qa
        try clear qk1
        try clear qz
        try clear qq
        try clear qb
        try clear qy
        try clear qo
        try clear qt
        try clear qp
        try clear ql
        try clear qg1
        try clear p2
        try clear p28
        try clear p289
        try clear p291
        try clear p293
        try clear p295
        try clear p296
        try clear p297
        try clear p299
        try clear p3
        try clear p300
        try clear p303
        try clear p305
        try clear p307
        try clear p6
        try clear q2
        try clear q28
        try clear q289
        try clear q291
        try clear q293
        try clear q295
        try clear q296
        try clear q297
        try clear q299
        try clear q3
        try clear q300
        try clear q303
        try clear q305
        try clear q307
        obtain ⟨kq, x116_29, rfl, HA, HJ29, qn1, HB⟩ := hcut
        cases kq with
        | zero => exact absurd HA.out (by simp [spec_l9Form.j4])
        | succ kj29 =>
         have H := HA.out
         clear HA
         simp only [spec_l9Form.j4] at H
         by_cases c41 : x116_29 = true
         ·subst c41
          have H1 : (some false) = some r := by rw [if_pos rfl] at H; exact H
          clear H
          have H := H1
          clear H1
          obtain rfl := Option.some.inj H
          go_wp2
          go_ret
          exact ⟨by first | rfl | (simp [errW_none, errW_some] <;> rfl) | (simp [*, errW_none, errW_some] <;> rfl) | (simp only [Bool.and_eq_true, beq_iff_eq, Bool.not_eq_true', Bool.not_eq_eq_eq_not, Bool.not_true, Bool.not_false] at *; simp [*]), by repeat (first | (with_reducible first | exact HB.out | apply below_alloc | apply pw_below_drewN | apply below_drew1 | refine below_set ?_ ql1.out) | exact HB.out)⟩
         ·replace c41 := Bool.eq_false_iff.mpr c41
          subst c41
          have H1 : (spec_l9Form.l3 kj29 x5_2 0 l0_0 l0_1) = some r := by rw [if_neg (show ¬ (false = true) by decide)] at H; exact H
          clear H
          have H := H1
          clear H1
          have H' := Aside0.mk H
          clear H
          go_wp2
          go_loopg [6] kj29 (fun kq v6 w' => ∃ (x6_4 : Int), v6 = .int .i64 x6_4 ∧ Aside0 (spec_l9Form.l3 kq x5_2 x6_4 l0_0 l0_1 = some r) ∧ Aside0 (kq ≤ kj29) ∧ Aside0 (w'.heap[gb288]? = some (.cells #[(.slice A0_0 l0_0.length c0_0), (.slice A0_1 l0_1.length c0_1)] 26 (0, 0))) ∧ Aside0 (Below w.heap.size w w'))
          case atStart => exact ⟨(0), (by first | rfl | (simp; done) | (simp [*]; done)), H', ⟨Nat.le_refl _⟩, ⟨by (with_reducible repeat (first | refine blk_drewN ?_ _ | refine blk_drew ?_ | refine blk_alloc ?_ _)); exact qn1.out⟩, ⟨by repeat (first | (with_reducible first | exact HB.out | apply below_alloc | apply pw_below_drewN | apply below_drew1 | refine below_set ?_ ql1.out) | exact HB.out)⟩⟩
          case round =>
           clear H'
           try clear c1
           try clear c2
           try clear p2
           try clear q2
           try clear hx2
           try clear c3
           try clear c3b0
           try clear p3
           try clear q3
           try clear hx3
           try clear c4
           try clear c6
           try clear c6b0
           try clear p6
           try clear c8
           try clear c10
           try clear c10b0
           try clear c15
           try clear c16
           try clear c16b0
           try clear c17
           try clear c17b0
           try clear c18
           try clear c18b0
           try clear c19
           try clear c19b0
           try clear c20
           try clear c21
           try clear c23
           try clear c28
           try clear p28
           try clear q28
           try clear hx28
           try clear c29
           try clear c29b0
           try clear p29
           try clear q29
           try clear hx29
           try clear c30
           try clear p30
           try clear q30
           try clear hx30
           try clear c32
           try clear c32b0
           try clear c34
           try clear c36
           try clear c36b0
           try clear c41
           try clear hcz11_0
           try clear hcz11_1
           try clear hcz13_0
           try clear hcz13_1
           try clear hcz14_0
           try clear hcz14_1
           try clear hcz24_0
           try clear hcz24_1
           try clear hcz25_0
           try clear hcz25_1
           try clear hcz26_0
           try clear hcz26_1
           try clear hcz27_0
           try clear hcz27_1
           try clear hcz28_0
           try clear hcz28_1
           try clear hcz31_0
           try clear hcz31_1
           try clear hcz37_0
           try clear hcz37_1
           try clear hcz39_0
           try clear hcz39_1
           try clear hcz40_0
           try clear hcz40_1
           try clear hcz5_0
           try clear hcz5_1
           try clear hfz11_0
           try clear hfz11_1
           try clear hfz13_0
           try clear hfz13_1
           try clear hfz14_0
           try clear hfz14_1
           try clear hfz24_0
           try clear hfz24_1
           try clear hfz25_0
           try clear hfz25_1
           try clear hfz26_0
           try clear hfz26_1
           try clear hfz27_0
           try clear hfz27_1
           try clear hfz28_0
           try clear hfz28_1
           try clear hfz31_0
           try clear hfz31_1
           try clear hfz37_0
           try clear hfz37_1
           try clear hfz39_0
           try clear hfz39_1
           try clear hfz40_0
           try clear hfz40_1
           try clear hfz5_0
           try clear hfz5_1
           try clear qi
           try clear qw
           try clear qm
           try clear qj1
           try clear qe1
           try clear qs
           try clear qh1
           try clear qn
           try clear qc
           try clear qi1
           try clear qr
           try clear qj
           try clear qg
           try clear qe
           try clear qv
           try clear qa1
           try clear qd1
           try clear qd
           try clear qf1
           try clear qa
           try clear qk1
           try clear qz
           try clear qq
           try clear qb
           try clear qy
           try clear qo
           try clear qt
           try clear qp
           try clear ql
           try clear qg1
           try clear p2
           try clear p28
           try clear p289
           try clear p29
           try clear p291
           try clear p293
           try clear p295
           try clear p296
           try clear p297
           try clear p299
           try clear p3
           try clear p30
           try clear p300
           try clear p303
           try clear p305
           try clear p307
           try clear p6
           try clear q2
           try clear q28
           try clear q289
           try clear q29
           try clear q291
           try clear q293
           try clear q295
           try clear q296
           try clear q297
           try clear q299
           try clear q3
           try clear q30
           try clear q300
           try clear q303
           try clear q305
           try clear q307
           obtain ⟨x6_4, rfl, HA, HK4, qn1, HB⟩ := hrel
           cases gk with
           | zero => exact absurd HA.out (by simp [spec_l9Form.l3])
           | succ k4 =>
            have H := HA.out
            clear HA
            simp only [spec_l9Form.l3] at H
            by_cases c42 : 0 ≤ x5_2
            ·rw [if_pos c42] at H
             have c42b0 : decide (0 ≤ x5_2) = true := decide_eq_true c42
             clear c42
             by_cases c43 : x5_2 < (l0_1.length : Int)
             ·rw [if_pos c43] at H
              have c43b0 : decide (x5_2 < (l0_1.length : Int)) = true := decide_eq_true c43
              clear c43
              by_cases c44 : x6_4 < (((rd_T65 l0_1 x5_2).f1).length : Int)
              ·rw [if_pos c44] at H
               have c44b0 : decide (x6_4 < (((rd_T65 l0_1 x5_2).f1).length : Int)) = true := decide_eq_true c44
               clear c44
               by_cases c45 : 0 ≤ x6_4
               ·rw [if_pos c45] at H
                have c45b0 : decide (0 ≤ x6_4) = true := decide_eq_true c45
                clear c45
                replace H := Option.bind_eq_some_iff.mp H
                obtain ⟨t312, A460, H⟩ := H
                replace H : (if t312 = true then (spec_l9Form.l3 k4 x5_2 (wrap64 (x6_4 + 1)) l0_0 l0_1) else (some false)) = some r := H
                have A46 := Aside0.mk A460
                clear A460
                by_cases c47 : t312 = true
                ·subst c47
                 have H1 : (spec_l9Form.l3 k4 x5_2 (wrap64 (x6_4 + 1)) l0_0 l0_1) = some r := by rw [if_pos rfl] at H; exact H
                 clear H
                 have H := H1
                 clear H1
                 have H' := Aside0.mk H
                 clear H
                 have hcz48_0 : wr.cell? ⟨gb288, 0, none⟩ = some (.slice A0_0 l0_0.length c0_0) := (blk_cell qn1.out 0).trans rfl
                 have hcz48_1 : wr.cell? ⟨gb288, 1, none⟩ = some (.slice A0_1 l0_1.length c0_1) := (blk_cell qn1.out 1).trans rfl
                 have hfz48_0 := blk_frozen qn1.out 0
                 have hfz48_1 := blk_frozen qn1.out 1
                 have p309 : 0 ≤ (x5_2 : Int) := of_decide_eq_true (by first | (with_reducible assumption) | assumption)
                 have q309 : x5_2 < (l0_1.length : Int) := of_decide_eq_true (by first | (with_reducible assumption) | assumption)
                 obtain ⟨ad309, A309_1, c309_1, e309, qk, qb1, hl309_1, hi309_1⟩ := at_T65 HR0_1.out x5_2 p309 q309
                 cases e309
                 replace qk := (HB.out.cell (World.block_lt_of_cell? w _ qk)).trans qk
                 replace qb1 := (HB.out.cell (World.block_lt_of_cell? w _ qb1)).trans qb1
                 have HR309_1 := Aside0.mk hi309_1
                 have HC309_1 := Aside0.mk hl309_1
                 clear hi309_1 hl309_1
                 replace p309 := eq_true p309
                 replace q309 := eq_true q309
                 have p310 : 0 ≤ (x5_2 : Int) := of_decide_eq_true (by first | (with_reducible assumption) | assumption)
                 have q310 : x5_2 < (l0_1.length : Int) := of_decide_eq_true (by first | (with_reducible assumption) | assumption)
                 obtain ⟨ad310, A310_1, c310_1, e310, qh, qx, hl310_1, hi310_1⟩ := at_T65 HR0_1.out x5_2 p310 q310
                 obtain rfl : ad309 = ad310 := (by injection e310)
                 replace qh := (HB.out.cell (World.block_lt_of_cell? w _ qh)).trans qh
                 replace qx := (HB.out.cell (World.block_lt_of_cell? w _ qx)).trans qx
                 have HR310_1 := Aside0.mk hi310_1
                 have HC310_1 := Aside0.mk hl310_1
                 clear hi310_1 hl310_1
                 replace p310 := eq_true p310
                 replace q310 := eq_true q310
                 have ea_ := Option.some.inj (qb1.symm.trans qx)
                 injection ea_ with ea_ en_ ec_
                 subst ea_
                 subst ec_
                 clear en_
                 have p311 : 0 ≤ (x6_4 : Int) := of_decide_eq_true (by first | (with_reducible assumption) | assumption)
                 have q311 : x6_4 < (((rd_T65 l0_1 x5_2).f1).length : Int) := of_decide_eq_true (by first | (with_reducible assumption) | assumption)
                 obtain ⟨ad311, e311, qf⟩ := Kd.at_string HR310_1.out x6_4 p311 q311
                 cases e311
                 replace qf := (HB.out.cell (World.block_lt_of_cell? w _ qf)).trans qf
                 replace p311 := eq_true p311
                 replace q311 := eq_true q311
                 go_wp2_with (first | ((with_reducible refine gate_callee (f := 43) rfl ?_); refine goesL_ (some 137) rfl rfl Tryd.func43 (by kernel_rfl) rfl #[.string (rdOf ByteArray.empty ((rd_T65 l0_1 x5_2).f1) x6_4)] rfl (by (try simp only [List.map_toArray, List.map_cons, List.map_nil]); first | done | rfl | (simp only [List.length_drop, List.length_take]; rfl)) ?_; (with_reducible refine (spec_l9Name.calls k4 (rdOf ByteArray.empty ((rd_T65 l0_1 x5_2).f1) x6_4) true _ A46.out).mono ?_); rintro e w' ⟨rfl, ⟨nd, rfl⟩⟩; refine ⟨_, rfl, ?_⟩))
                 go_roundg k4
                 case measure => have := HK1.out; have := HK2.out; have := HJ29.out; have := HK4.out; omega
                 case rel => exact ⟨(wrap64 (x6_4 + 1)), (by first | rfl | (simp; done) | (simp [*]; done)), H', ⟨by have := HK1.out; have := HK2.out; have := HJ29.out; have := HK4.out; omega⟩, ⟨by (with_reducible repeat (first | refine blk_drewN ?_ _ | refine blk_drew ?_ | refine blk_alloc ?_ _)); exact qn1.out⟩, ⟨by repeat (first | (with_reducible first | exact HB.out | apply below_alloc | apply pw_below_drewN | apply below_drew1 | refine below_set ?_ ql1.out) | exact HB.out)⟩⟩
                ·replace c47 := Bool.eq_false_iff.mpr c47
                 subst c47
                 have H1 : (some false) = some r := by rw [if_neg (show ¬ (false = true) by decide)] at H; exact H
                 clear H
                 have H := H1
                 clear H1
                 obtain rfl := Option.some.inj H
                 have hcz49_0 : wr.cell? ⟨gb288, 0, none⟩ = some (.slice A0_0 l0_0.length c0_0) := (blk_cell qn1.out 0).trans rfl
                 have hcz49_1 : wr.cell? ⟨gb288, 1, none⟩ = some (.slice A0_1 l0_1.length c0_1) := (blk_cell qn1.out 1).trans rfl
                 have hfz49_0 := blk_frozen qn1.out 0
                 have hfz49_1 := blk_frozen qn1.out 1
                 have p309 : 0 ≤ (x5_2 : Int) := of_decide_eq_true (by first | (with_reducible assumption) | assumption)
                 have q309 : x5_2 < (l0_1.length : Int) := of_decide_eq_true (by first | (with_reducible assumption) | assumption)
                 obtain ⟨ad309, A309_1, c309_1, e309, qk, qb1, hl309_1, hi309_1⟩ := at_T65 HR0_1.out x5_2 p309 q309
                 cases e309
                 replace qk := (HB.out.cell (World.block_lt_of_cell? w _ qk)).trans qk
                 replace qb1 := (HB.out.cell (World.block_lt_of_cell? w _ qb1)).trans qb1
                 have HR309_1 := Aside0.mk hi309_1
                 have HC309_1 := Aside0.mk hl309_1
                 clear hi309_1 hl309_1
                 replace p309 := eq_true p309
                 replace q309 := eq_true q309
                 have p310 : 0 ≤ (x5_2 : Int) := of_decide_eq_true (by first | (with_reducible assumption) | assumption)
                 have q310 : x5_2 < (l0_1.length : Int) := of_decide_eq_true (by first | (with_reducible assumption) | assumption)
                 obtain ⟨ad310, A310_1, c310_1, e310, qh, qx, hl310_1, hi310_1⟩ := at_T65 HR0_1.out x5_2 p310 q310
                 obtain rfl : ad309 = ad310 := (by injection e310)
                 replace qh := (HB.out.cell (World.block_lt_of_cell? w _ qh)).trans qh
                 replace qx := (HB.out.cell (World.block_lt_of_cell? w _ qx)).trans qx
                 have HR310_1 := Aside0.mk hi310_1
                 have HC310_1 := Aside0.mk hl310_1
                 clear hi310_1 hl310_1
                 replace p310 := eq_true p310
                 replace q310 := eq_true q310
                 have ea_ := Option.some.inj (qb1.symm.trans qx)
                 injection ea_ with ea_ en_ ec_
                 subst ea_
                 subst ec_
                 clear en_
                 have p311 : 0 ≤ (x6_4 : Int) := of_decide_eq_true (by first | (with_reducible assumption) | assumption)
                 have q311 : x6_4 < (((rd_T65 l0_1 x5_2).f1).length : Int) := of_decide_eq_true (by first | (with_reducible assumption) | assumption)
                 obtain ⟨ad311, e311, qf⟩ := Kd.at_string HR310_1.out x6_4 p311 q311
                 cases e311
                 replace qf := (HB.out.cell (World.block_lt_of_cell? w _ qf)).trans qf
                 replace p311 := eq_true p311
                 replace q311 := eq_true q311
                 go_wp2_with (first | ((with_reducible refine gate_callee (f := 43) rfl ?_); refine goesL_ (some 137) rfl rfl Tryd.func43 (by kernel_rfl) rfl #[.string (rdOf ByteArray.empty ((rd_T65 l0_1 x5_2).f1) x6_4)] rfl (by (try simp only [List.map_toArray, List.map_cons, List.map_nil]); first | done | rfl | (simp only [List.length_drop, List.length_take]; rfl)) ?_; (with_reducible refine (spec_l9Name.calls k4 (rdOf ByteArray.empty ((rd_T65 l0_1 x5_2).f1) x6_4) false _ A46.out).mono ?_); rintro e w' ⟨rfl, ⟨nd, rfl⟩⟩; refine ⟨_, rfl, ?_⟩))
                 go_ret
                 exact ⟨by first | rfl | (simp [errW_none, errW_some] <;> rfl) | (simp [*, errW_none, errW_some] <;> rfl) | (simp only [Bool.and_eq_true, beq_iff_eq, Bool.not_eq_true', Bool.not_eq_eq_eq_not, Bool.not_true, Bool.not_false] at *; simp [*]), by repeat (first | (with_reducible first | exact HB.out | apply below_alloc | apply pw_below_drewN | apply below_drew1 | refine below_set ?_ ql1.out) | exact HB.out)⟩
               ·rw [if_neg c45] at H
                exact absurd H (by simp)
              ·rw [if_neg c44] at H
               have c44b0 : decide (x6_4 < (((rd_T65 l0_1 x5_2).f1).length : Int)) = false := decide_eq_false c44
               clear c44
               have H' := Aside0.mk H
               clear H
               have hcz50_0 : wr.cell? ⟨gb288, 0, none⟩ = some (.slice A0_0 l0_0.length c0_0) := (blk_cell qn1.out 0).trans rfl
               have hcz50_1 : wr.cell? ⟨gb288, 1, none⟩ = some (.slice A0_1 l0_1.length c0_1) := (blk_cell qn1.out 1).trans rfl
               have hfz50_0 := blk_frozen qn1.out 0
               have hfz50_1 := blk_frozen qn1.out 1
               have p309 : 0 ≤ (x5_2 : Int) := of_decide_eq_true (by first | (with_reducible assumption) | assumption)
               have q309 : x5_2 < (l0_1.length : Int) := of_decide_eq_true (by first | (with_reducible assumption) | assumption)
               obtain ⟨ad309, A309_1, c309_1, e309, qk, qb1, hl309_1, hi309_1⟩ := at_T65 HR0_1.out x5_2 p309 q309
               cases e309
               replace qk := (HB.out.cell (World.block_lt_of_cell? w _ qk)).trans qk
               replace qb1 := (HB.out.cell (World.block_lt_of_cell? w _ qb1)).trans qb1
               have HR309_1 := Aside0.mk hi309_1
               have HC309_1 := Aside0.mk hl309_1
               clear hi309_1 hl309_1
               replace p309 := eq_true p309
               replace q309 := eq_true q309
               go_wp2
               go_roundg k4
               case measure => have := HK1.out; have := HK2.out; have := HJ29.out; have := HK4.out; omega
               case rel => exact ⟨(wrap64 (x5_2 + 1)), (by first | rfl | (simp; done) | (simp [*]; done)), H', ⟨by have := HK1.out; have := HK2.out; have := HJ29.out; have := HK4.out; omega⟩, ⟨by (with_reducible repeat (first | refine blk_drewN ?_ _ | refine blk_drew ?_ | refine blk_alloc ?_ _)); exact qn1.out⟩, ⟨by repeat (first | (with_reducible first | exact HB.out | apply below_alloc | apply pw_below_drewN | apply below_drew1 | refine below_set ?_ ql1.out) | exact HB.out)⟩⟩
             ·rw [if_neg c43] at H
              exact absurd H (by simp)
            ·rw [if_neg c42] at H
             exact absurd H (by simp)
      ·rw [if_neg c29] at H
       have c29b0 : decide (x5_2 < (l0_1.length : Int)) = false := decide_eq_false c29
       clear c29
       replace H := Option.bind_eq_some_iff.mp H
       obtain ⟨t302, A510, H⟩ := H
       replace H : (if t302 = true then (some (decide ((l0_1.length : Int) ≤ 3))) else (some false)) = some r := H
       have A51 := Aside0.mk A510
       clear A510
       by_cases c52 : t302 = true
       ·subst c52
        have H1 : (some (decide ((l0_1.length : Int) ≤ 3))) = some r := by rw [if_pos rfl] at H; exact H
        clear H
        have H := H1
        clear H1
        obtain rfl := Option.some.inj H
        have hcz53_0 : wr.cell? ⟨gb288, 0, none⟩ = some (.slice A0_0 l0_0.length c0_0) := (blk_cell qn1.out 0).trans rfl
        have hcz53_1 : wr.cell? ⟨gb288, 1, none⟩ = some (.slice A0_1 l0_1.length c0_1) := (blk_cell qn1.out 1).trans rfl
        have hfz53_0 := blk_frozen qn1.out 0
        have hfz53_1 := blk_frozen qn1.out 1
        go_wp2_with (first | ((with_reducible refine gate_callee (f := 45) rfl ?_); refine goesL_ (some 142) rfl rfl Tryd.func45 (by kernel_rfl) rfl #[.int .i64 (l0_0.length : Int), .int .i64 1, .int .i64 5] rfl (by (try simp only [List.map_toArray, List.map_cons, List.map_nil]); first | done | rfl | (simp only [List.length_drop, List.length_take]; rfl)) ?_; (with_reducible refine (spec_l1In.calls (l0_0.length : Int) 1 5 true _ A51.out).mono ?_); rintro e w' ⟨rfl, ⟨nd, rfl⟩⟩; refine ⟨_, rfl, ?_⟩))
        go_ret
        exact ⟨by first | rfl | (simp [errW_none, errW_some] <;> rfl) | (simp [*, errW_none, errW_some] <;> rfl) | (simp only [Bool.and_eq_true, beq_iff_eq, Bool.not_eq_true', Bool.not_eq_eq_eq_not, Bool.not_true, Bool.not_false] at *; simp [*]), by repeat (first | (with_reducible first | exact HB.out | apply below_alloc | apply pw_below_drewN | apply below_drew1 | refine below_set ?_ ql1.out) | exact HB.out)⟩
       ·replace c52 := Bool.eq_false_iff.mpr c52
        subst c52
        have H1 : (some false) = some r := by rw [if_neg (show ¬ (false = true) by decide)] at H; exact H
        clear H
        have H := H1
        clear H1
        obtain rfl := Option.some.inj H
        have hcz54_0 : wr.cell? ⟨gb288, 0, none⟩ = some (.slice A0_0 l0_0.length c0_0) := (blk_cell qn1.out 0).trans rfl
        have hcz54_1 : wr.cell? ⟨gb288, 1, none⟩ = some (.slice A0_1 l0_1.length c0_1) := (blk_cell qn1.out 1).trans rfl
        have hfz54_0 := blk_frozen qn1.out 0
        have hfz54_1 := blk_frozen qn1.out 1
        go_wp2_with (first | ((with_reducible refine gate_callee (f := 45) rfl ?_); refine goesL_ (some 142) rfl rfl Tryd.func45 (by kernel_rfl) rfl #[.int .i64 (l0_0.length : Int), .int .i64 1, .int .i64 5] rfl (by (try simp only [List.map_toArray, List.map_cons, List.map_nil]); first | done | rfl | (simp only [List.length_drop, List.length_take]; rfl)) ?_; (with_reducible refine (spec_l1In.calls (l0_0.length : Int) 1 5 false _ A51.out).mono ?_); rintro e w' ⟨rfl, ⟨nd, rfl⟩⟩; refine ⟨_, rfl, ?_⟩))
        go_ret
        exact ⟨by first | rfl | (simp [errW_none, errW_some] <;> rfl) | (simp [*, errW_none, errW_some] <;> rfl) | (simp only [Bool.and_eq_true, beq_iff_eq, Bool.not_eq_true', Bool.not_eq_eq_eq_not, Bool.not_true, Bool.not_false] at *; simp [*]), by repeat (first | (with_reducible first | exact HB.out | apply below_alloc | apply pw_below_drewN | apply below_drew1 | refine below_set ?_ ql1.out) | exact HB.out)⟩

end Go.Proofs.YtjeipkfeihahdaaDoor.P
