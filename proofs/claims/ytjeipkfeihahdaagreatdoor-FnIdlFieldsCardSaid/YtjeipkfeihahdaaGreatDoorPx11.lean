-- PRINTED by print.py (a twelfth state) out of the translation. Not trusted: Lean checks it.
import Derived.Test.YtjeipkfeihahdaaGreatDoorPx0
import Derived.Test.YtjeipkfeihahdaaGreatDoorPx10
namespace Go.Proofs.YtjeipkfeihahdaaGreatDoor.P
open Go.RowKit Go.Proofs.YtjeipkfeihahdaaGreatDoorW.PrintWords Go.Proofs.YtjeipkfeihahdaaGreatDoorW.PrintLast Go.Proofs.YtjeipkfeihahdaaGreatDoorW.PrintMore
attribute [local go_sem] max2_int min2_int max_two min_two max_three min_three max_four min_four   -- for this text's walks alone
set_option linter.unusedVariables false
set_option linter.unusedSimpArgs false

/-! ### spec_l9Names: function 31 -/
mutual
def spec_l9Names.l0 : Nat → List ByteArray → Int → List (S42) → List (S70) → Option (Bool)
 | 0, _, _, _, _ => none
 | k + 1, x3, x4, qo, qd => if x4 < (qo.length : Int) then (if 0 ≤ x4 then (if x3.length < 8796093022208 then (spec_l9Names.l1 k (x3 ++ [(rd_T42 qo x4).f0]) x4 (([] : List ByteArray)) 0 qo qd) else (none)) else (none)) else (spec_l9Names.l2 k x3 0 qo qd)
def spec_l9Names.l1 : Nat → List ByteArray → Int → List ByteArray → Int → List (S42) → List (S70) → Option (Bool)
 | 0, _, _, _, _, _, _ => none
 | k + 1, x3, x4, x5, x6, qo, qd => if 0 ≤ x4 then (if x4 < (qo.length : Int) then (if x6 < (((rd_T42 qo x4).f1).length : Int) then (if 0 ≤ x6 then (if x5.length < 8796093022208 then (spec_l9Names.l1 k x3 x4 (x5 ++ [(rd_T46 ((rd_T42 qo x4).f1) x6).f0]) (wrap64 (x6 + 1)) qo qd) else (none)) else (none)) else ((spec_l9Twice.f k x5).bind fun t186 => (if t186 = true then (some true) else (spec_l9Names.l0 k x3 (wrap64 (x4 + 1)) qo qd)))) else (none)) else (none)
def spec_l9Names.l2 : Nat → List ByteArray → Int → List (S42) → List (S70) → Option (Bool)
 | 0, _, _, _, _ => none
 | k + 1, x3, x7, qo, qd => if x7 < (qd.length : Int) then (if 0 ≤ x7 then (if x3.length < 8796093022208 then ((spec_l9Twice.f k ((rd_T70 qd x7).f1)).bind fun t192 => (if t192 = true then (some true) else (spec_l9Names.l2 k (x3 ++ [(rd_T70 qd x7).f0]) (wrap64 (x7 + 1)) qo qd))) else (none)) else (none)) else ((spec_l9Twice.f k x3).bind fun t193 => (some t193))
end
def spec_l9Names.f (k : Nat) (l0_0 : List (S42)) (l0_1 : List (S70)) : Option (Bool) := spec_l9Names.l0 k (([] : List ByteArray)) 0 l0_0 l0_1
set_option maxHeartbeats 8000000 in
set_option maxRecDepth 100000 in
theorem spec_l9Names.calls (k : Nat) (A0_0 : Option Addr) (c0_0 : Nat) (l0_0 : List (S42)) (A0_1 : Option Addr) (c0_1 : Nat) (l0_1 : List (S70)) (r : Bool) (w : World) (hr0_0 : Kd.C k42 w A0_0 l0_0.length l0_0) (hc0_0 : l0_0.length ≤ c0_0) (hr0_1 : Kd.C k70 w A0_1 l0_1.length l0_1) (hc0_1 : l0_1.length ≤ c0_1) (h : spec_l9Names.f k l0_0 l0_1 = some r) :
  Calls Tryz.prog 31 #[.agg #[.slice A0_0 l0_0.length c0_0, .slice A0_1 l0_1.length c0_1]] w fun e w' => e = .returned (.bool r) ∧ Below w.heap.size w w' := by
 have hu26 := Tryz.underlying26
 have HR0_0 := Aside0.mk hr0_0
 have HC0_0 := Aside0.mk hc0_0
 clear hr0_0 hc0_0
 have HR0_1 := Aside0.mk hr0_1
 have HC0_1 := Aside0.mk hc0_1
 clear hr0_1 hc0_1
 have HB := Aside0.mk (Below.refl w.heap.size w)
 have H : (spec_l9Names.l0 k (([] : List ByteArray)) 0 l0_0 l0_1) = some r := h
 clear h
 obtain ⟨y170, hy170⟩ : ∃ y_ : List ByteArray, y_ = (([] : List ByteArray)) := ⟨_, rfl⟩
 replace H : (spec_l9Names.l0 k y170 0 l0_0 l0_1) = some r := by first | (rw [hy170]; with_reducible exact H) | (have H2_ := (Option.bind_some _ _).symm.trans H; rw [hy170]; with_reducible exact H2_) | (have H2_ := (Option.bind_some _ _).symm.trans H; with_reducible exact H2_) | with_reducible exact H | (rw [hy170]; exact H) | exact H
 have Ny170 := Aside0.mk hy170
 clear hy170
 have H' := Aside0.mk H
 clear H
 go_enter Tryz.func31, Tryz.ntmps31
 go_wp2_with (first | ((with_reducible refine gate_dst (N := 1) rfl ?_); refine box_event ?hg (N := 1) ?hd (cs := #[.slice A0_0 l0_0.length c0_0, .slice A0_1 l0_1.length c0_1]) (t := 26) ?hr ?_; (case hd => rfl); (case hg => rfl); (case hr => first | (go_simp; done) | (go_simp; rfl)); intro gb169 hg w2 hbox hb; have n0_ := Aside0.mk (below_step (by repeat (first | (with_reducible first | exact HB.out | apply below_alloc | apply pw_below_drewN | apply below_drew1) | exact HB.out)) hb); have n1_ := Aside0.mk (hbox); have n2_ := Aside0.mk ((by rw [hg]; exact (below_size (by repeat (first | (with_reducible first | exact HB.out | apply below_alloc | apply pw_below_drewN | apply below_drew1) | exact HB.out))) : w.heap.size ≤ gb169)); have n3_ := Aside0.mk ((by rw [hg]; exact (below_size (by repeat (first | (with_reducible first | exact HB.out | apply below_alloc | apply pw_below_drewN | apply below_drew1) | exact HB.out))) : w.heap.size ≤ gb169)); clear HB; have HB := n0_; have qs := n1_; have qt := n2_; have qu := n3_; clear n0_ n1_ n2_ n3_; clear hb hbox hg) | ((with_reducible refine gate_dst (N := 8) rfl ?_); refine Kd.R_lit Kd.string _ 9 ?hg (N := 8) ?hd (xs := ([] : List ByteArray)) (inner := []) (ok := fun _ => True) (okp := fun _ => True) ?hr ?hp (fun _ hk => hk) trivial (Below.refl _ _) (Nat.le_refl _) (by simp) ?_; (case hd => rfl); (case hg => rfl); (case hr => first | (go_simp; done) | (go_simp; rfl)); (case hp => exact (Reps.none _ _)); intro v171 w3 ho4 hb hg_ hnew_; clear hg_ hnew_; (first | rw [← Ny170.out] at ho4 | (simp only [Int.reduceToNat] at ho4; rw [← Ny170.out] at ho4)); have n0_ := Aside0.mk (Kd.R_lower ho4 (below_size (by repeat (first | (with_reducible first | exact HB.out | apply below_alloc | apply pw_below_drewN | apply below_drew1 | refine below_set ?_ qu.out) | exact HB.out)))); have n1_ := Aside0.mk (blk_below (g := gb169) (o := .cells #[.slice A0_0 l0_0.length c0_0, .slice A0_1 l0_1.length c0_1] 26 (0, 0)) (by (with_reducible repeat (first | refine blk_drewN ?_ _ | refine blk_drew ?_ | refine blk_alloc ?_ _)); exact qs.out) hb); have n2_ := Aside0.mk (below_step (by repeat (first | (with_reducible first | exact HB.out | apply below_alloc | apply pw_below_drewN | apply below_drew1 | refine below_set ?_ qu.out) | exact HB.out)) hb); clear qs; clear HB; have HO172 := n0_; have qs := n1_; have HB := n2_; clear n0_ n1_ n2_; clear hb ho4))
 go_loopg [3, 4] k (fun kq v3 v4 w' => ∃ (x3_1 : List ByteArray) (x4_1 : Int), v4 = .int .i64 x4_1 ∧ Aside0 (spec_l9Names.l0 kq x3_1 x4_1 l0_0 l0_1 = some r) ∧ Aside0 (kq ≤ k) ∧ Aside0 (Kd.R Kd.string 9 w' w.heap.size (fun _ => True) v3 x3_1) ∧ Aside0 (w'.heap[gb169]? = some (.cells #[(.slice A0_0 l0_0.length c0_0), (.slice A0_1 l0_1.length c0_1)] 26 (0, 0))) ∧ Aside0 (Below w.heap.size w w'))
 case atStart => exact ⟨(y170), (0), (by first | rfl | (simp; done) | (simp [*]; done)), H', ⟨Nat.le_refl _⟩, ⟨by (with_reducible repeat (first | apply Kd.R_alloc | apply Kd.R_drewN | apply Kd.R_drew)); exact HO172.out⟩, ⟨by (with_reducible repeat (first | refine blk_drewN ?_ _ | refine blk_drew ?_ | refine blk_alloc ?_ _)); exact qs.out⟩, ⟨by repeat (first | (with_reducible first | exact HB.out | apply below_alloc | apply pw_below_drewN | apply below_drew1 | refine below_set ?_ qu.out) | exact HB.out)⟩⟩
 case round =>
  clear H'
  try clear p2
  try clear c3
  obtain ⟨x3_1, x4_1, rfl, HA, HK1, HO_3, qs, HB⟩ := hrel
  cases gk with
  | zero => exact absurd HA.out (by simp [spec_l9Names.l0])
  | succ k1 =>
   have H := HA.out
   clear HA
   simp only [spec_l9Names.l0] at H
   by_cases c5 : x4_1 < (l0_0.length : Int)
   ·rw [if_pos c5] at H
    have c5b0 : decide (x4_1 < (l0_0.length : Int)) = true := decide_eq_true c5
    clear c5
    by_cases c6 : 0 ≤ x4_1
    ·rw [if_pos c6] at H
     have c6b0 : decide (0 ≤ x4_1) = true := decide_eq_true c6
     clear c6
     by_cases c7 : x3_1.length < 8796093022208
     ·rw [if_pos c7] at H
      have LMc7 := Aside0.mk c7
      clear c7
      obtain ⟨y174, hy174⟩ : ∃ y_ : List ByteArray, y_ = (x3_1 ++ [(rd_T42 l0_0 x4_1).f0]) := ⟨_, rfl⟩
      replace H : (spec_l9Names.l1 k1 y174 x4_1 (([] : List ByteArray)) 0 l0_0 l0_1) = some r := by first | (rw [hy174]; with_reducible exact H) | (have H2_ := (Option.bind_some _ _).symm.trans H; rw [hy174]; with_reducible exact H2_) | (have H2_ := (Option.bind_some _ _).symm.trans H; with_reducible exact H2_) | with_reducible exact H | (rw [hy174]; exact H) | exact H
      have Ny174 := Aside0.mk hy174
      clear hy174
      obtain ⟨y177, hy177⟩ : ∃ y_ : List ByteArray, y_ = (([] : List ByteArray)) := ⟨_, rfl⟩
      replace H : (spec_l9Names.l1 k1 y174 x4_1 y177 0 l0_0 l0_1) = some r := by first | (rw [hy177]; with_reducible exact H) | (have H2_ := (Option.bind_some _ _).symm.trans H; rw [hy177]; with_reducible exact H2_) | (have H2_ := (Option.bind_some _ _).symm.trans H; with_reducible exact H2_) | with_reducible exact H | (rw [hy177]; exact H) | exact H
      have Ny177 := Aside0.mk hy177
      clear hy177
      have H' := Aside0.mk H
      clear H
      have hcz8_0 : wr.cell? ⟨gb169, 0, none⟩ = some (.slice A0_0 l0_0.length c0_0) := (blk_cell qs.out 0).trans rfl
      have hcz8_1 : wr.cell? ⟨gb169, 1, none⟩ = some (.slice A0_1 l0_1.length c0_1) := (blk_cell qs.out 1).trans rfl
      have hfz8_0 := blk_frozen qs.out 0
      have hfz8_1 := blk_frozen qs.out 1
      have p173 : 0 ≤ (x4_1 : Int) := of_decide_eq_true (by assumption)
      have q173 : x4_1 < (l0_0.length : Int) := of_decide_eq_true (by assumption)
      obtain ⟨ad173, A173_1, c173_1, e173, qk, qa, hl173_1, hi173_1⟩ := at_T42 HR0_0.out x4_1 p173 q173
      cases e173
      replace qk := pw_cell_below HB.out qk
      replace qa := pw_cell_below HB.out qa
      have HR173_1 := Aside0.mk hi173_1
      have HC173_1 := Aside0.mk hl173_1
      clear hi173_1 hl173_1
      replace p173 := eq_true p173
      replace q173 := eq_true q173
      go_wp2_with (first | ((with_reducible refine gate_builtin (b := .append) (xs := #[.tmp 16, .tmp 23]) rfl ?_); at_builtin; refine Kd.R_append Kd.string (w0 := w) w.heap.size rfl (.tmp 16) (.tmp 23) 52 9 (.string ⟨#[]⟩) 16 rfl Tryz.underlying52 info9 rfl (by decide) (by omega) u3 x3_1 ((rd_T42 l0_0 x4_1).f0) [.string ((rd_T42 l0_0 x4_1).f0)] (fun _ => True) (fun _ => False) rfl rfl ?aP (fun _ hk => hk.elim) ?aF ?aO ?aB ?aS ?aL ?_; (case aP => exact rfl); (case aB => exact (by repeat (first | (with_reducible first | exact HB.out | apply below_alloc | apply pw_below_drewN | apply below_drew1 | refine below_set ?_ qu.out) | exact HB.out))); (case aF => exact (fun _ _ => trivial)); (case aO => exact (by (with_reducible repeat (first | apply Kd.R_alloc | apply Kd.R_drewN | apply Kd.R_drew)); exact HO_3.out)); (case aS => exact (below_size (by repeat (first | (with_reducible first | exact HB.out | apply below_alloc | apply pw_below_drewN | apply below_drew1 | refine below_set ?_ qu.out) | exact HB.out)))); (case aL => have := LMc7.out; omega); intro v175 w9 ho hb hg hat; rw [← Ny174.out] at ho; have n0_ := Aside0.mk (blk_grown (g := gb169) (o := .cells #[.slice (some ad173) l0_0.length c0_0, .slice A0_1 l0_1.length c0_1] 26 (0, 0)) (by (with_reducible repeat (first | refine blk_drewN ?_ _ | refine blk_drew ?_ | refine blk_alloc ?_ _)); exact qs.out) hg (Kd.R_ne HO_3.out qs.out (by decide))); have n1_ := Aside0.mk (hb); have n2_ := Aside0.mk (ho); clear qs; clear HB; clear HO_3; have qs := n0_; have HB := n1_; have HO176 := n2_; clear n0_ n1_ n2_; clear ho hb hg hat) | ((with_reducible refine gate_dst (N := 25) rfl ?_); refine Kd.R_lit Kd.string _ 9 ?hg (N := 25) ?hd (xs := ([] : List ByteArray)) (inner := []) (ok := fun _ => True) (okp := fun _ => True) ?hr ?hp (fun _ hk => hk) trivial (Below.refl _ _) (Nat.le_refl _) (by simp) ?_; (case hd => rfl); (case hg => rfl); (case hr => first | (go_simp; done) | (go_simp; rfl)); (case hp => exact (Reps.none _ _)); intro v178 w10 ho11 hb hg_ hnew_; clear hg_ hnew_; (first | rw [← Ny177.out] at ho11 | (simp only [Int.reduceToNat] at ho11; rw [← Ny177.out] at ho11)); have n0_ := Aside0.mk (Kd.R_elder' (by (with_reducible repeat (first | apply Kd.R_alloc | apply Kd.R_drewN | apply Kd.R_drew)); exact HO176.out) (Kd.R_base ho11) hb); have n1_ := Aside0.mk (Kd.R_lower (Kd.R_new' ho11 (Kd.R_lt (by (with_reducible repeat (first | apply Kd.R_alloc | apply Kd.R_drewN | apply Kd.R_drew)); exact HO176.out))) (below_size (by repeat (first | (with_reducible first | exact HB.out | apply below_alloc | apply pw_below_drewN | apply below_drew1 | refine below_set ?_ qu.out) | exact HB.out)))); have n2_ := Aside0.mk (blk_below (g := gb169) (o := .cells #[.slice (some ad173) l0_0.length c0_0, .slice A0_1 l0_1.length c0_1] 26 (0, 0)) (by (with_reducible repeat (first | refine blk_drewN ?_ _ | refine blk_drew ?_ | refine blk_alloc ?_ _)); exact qs.out) hb); have n3_ := Aside0.mk (below_step (by repeat (first | (with_reducible first | exact HB.out | apply below_alloc | apply pw_below_drewN | apply below_drew1 | refine below_set ?_ qu.out) | exact HB.out)) hb); clear HO176; clear qs; clear HB; have HO176 := n0_; have HO179 := n1_; have qs := n2_; have HB := n3_; clear n0_ n1_ n2_ n3_; clear hb ho11))
      go_loopg [5, 6] k1 (fun kq v5 v6 w' => ∃ (x5_2 : List ByteArray) (x6_2 : Int), v6 = .int .i64 x6_2 ∧ Aside0 (spec_l9Names.l1 kq y174 x4_1 x5_2 x6_2 l0_0 l0_1 = some r) ∧ Aside0 (kq ≤ k1) ∧ Aside0 (Kd.R Kd.string 9 w' w.heap.size (fun k_ => some k_ ≠ (v5 : Value).ownBlock) v175 y174) ∧ Aside0 (Kd.R Kd.string 9 w' w.heap.size (fun k_ => some k_ ≠ (v175 : Value).ownBlock) v5 x5_2) ∧ Aside0 (w'.heap[gb169]? = some (.cells #[(.slice (some ad173) l0_0.length c0_0), (.slice A0_1 l0_1.length c0_1)] 26 (0, 0))) ∧ Aside0 (Below w.heap.size w w'))
      case atStart => exact ⟨(y177), (0), (by first | rfl | (simp; done) | (simp [*]; done)), H', ⟨Nat.le_refl _⟩, ⟨by (with_reducible repeat (first | apply Kd.R_alloc | apply Kd.R_drewN | apply Kd.R_drew)); exact Kd.R_mono HO176.out (fun _ hk => hk.2)⟩, ⟨by (with_reducible repeat (first | apply Kd.R_alloc | apply Kd.R_drewN | apply Kd.R_drew)); exact Kd.R_mono HO179.out (fun _ hk => hk.2)⟩, ⟨by (with_reducible repeat (first | refine blk_drewN ?_ _ | refine blk_drew ?_ | refine blk_alloc ?_ _)); exact qs.out⟩, ⟨by repeat (first | (with_reducible first | exact HB.out | apply below_alloc | apply pw_below_drewN | apply below_drew1 | refine below_set ?_ qu.out) | exact HB.out)⟩⟩
      case round =>
       clear H'
       try clear c1
       try clear p1
       try clear q1
       try clear hx1
       try clear p2
       try clear c3
       try clear c5
       try clear c5b0
       try clear c6
       try clear c6b0
       try clear c7
       try clear hcz8_0
       try clear hcz8_1
       try clear hfz8_0
       try clear hfz8_1
       try clear qk
       try clear qa
       try clear p173
       try clear p2
       try clear q173
       obtain ⟨x5_2, x6_2, rfl, HA, HK2, HO_3, HO_5, qs, HB⟩ := hrel
       cases gk with
       | zero => exact absurd HA.out (by simp [spec_l9Names.l1])
       | succ k2 =>
        have H := HA.out
        clear HA
        simp only [spec_l9Names.l1] at H
        by_cases c12 : 0 ≤ x4_1
        ·rw [if_pos c12] at H
         have c12b0 : decide (0 ≤ x4_1) = true := decide_eq_true c12
         clear c12
         by_cases c13 : x4_1 < (l0_0.length : Int)
         ·rw [if_pos c13] at H
          have c13b0 : decide (x4_1 < (l0_0.length : Int)) = true := decide_eq_true c13
          clear c13
          by_cases c14 : x6_2 < (((rd_T42 l0_0 x4_1).f1).length : Int)
          ·rw [if_pos c14] at H
           have c14b0 : decide (x6_2 < (((rd_T42 l0_0 x4_1).f1).length : Int)) = true := decide_eq_true c14
           clear c14
           by_cases c15 : 0 ≤ x6_2
           ·rw [if_pos c15] at H
            have c15b0 : decide (0 ≤ x6_2) = true := decide_eq_true c15
            clear c15
            by_cases c16 : x5_2.length < 8796093022208
            ·rw [if_pos c16] at H
             have LMc16 := Aside0.mk c16
             clear c16
             obtain ⟨y183, hy183⟩ : ∃ y_ : List ByteArray, y_ = (x5_2 ++ [(rd_T46 ((rd_T42 l0_0 x4_1).f1) x6_2).f0]) := ⟨_, rfl⟩
             replace H : (spec_l9Names.l1 k2 y174 x4_1 y183 (wrap64 (x6_2 + 1)) l0_0 l0_1) = some r := by first | (rw [hy183]; with_reducible exact H) | (have H2_ := (Option.bind_some _ _).symm.trans H; rw [hy183]; with_reducible exact H2_) | (have H2_ := (Option.bind_some _ _).symm.trans H; with_reducible exact H2_) | with_reducible exact H | (rw [hy183]; exact H) | exact H
             have Ny183 := Aside0.mk hy183
             clear hy183
             have H' := Aside0.mk H
             clear H
             have hcz17_0 : wr.cell? ⟨gb169, 0, none⟩ = some (.slice (some ad173) l0_0.length c0_0) := (blk_cell qs.out 0).trans rfl
             have hcz17_1 : wr.cell? ⟨gb169, 1, none⟩ = some (.slice A0_1 l0_1.length c0_1) := (blk_cell qs.out 1).trans rfl
             have hfz17_0 := blk_frozen qs.out 0
             have hfz17_1 := blk_frozen qs.out 1
             have p180 : 0 ≤ (x4_1 : Int) := of_decide_eq_true (by assumption)
             have q180 : x4_1 < (l0_0.length : Int) := of_decide_eq_true (by assumption)
             obtain ⟨ad180, A180_1, c180_1, e180, qp, qi, hl180_1, hi180_1⟩ := at_T42 HR0_0.out x4_1 p180 q180
             obtain rfl : ad173 = ad180 := (by injection e180)
             replace qp := pw_cell_below HB.out qp
             replace qi := pw_cell_below HB.out qi
             have HR180_1 := Aside0.mk hi180_1
             have HC180_1 := Aside0.mk hl180_1
             clear hi180_1 hl180_1
             replace p180 := eq_true p180
             replace q180 := eq_true q180
             have p181 : 0 ≤ (x4_1 : Int) := of_decide_eq_true (by assumption)
             have q181 : x4_1 < (l0_0.length : Int) := of_decide_eq_true (by assumption)
             obtain ⟨ad181, A181_1, c181_1, e181, ql, qh, hl181_1, hi181_1⟩ := at_T42 HR0_0.out x4_1 p181 q181
             obtain rfl : ad173 = ad181 := (by injection e181)
             replace ql := pw_cell_below HB.out ql
             replace qh := pw_cell_below HB.out qh
             have HR181_1 := Aside0.mk hi181_1
             have HC181_1 := Aside0.mk hl181_1
             clear hi181_1 hl181_1
             replace p181 := eq_true p181
             replace q181 := eq_true q181
             have ea_ := Option.some.inj (qi.symm.trans qh)
             injection ea_ with ea_ en_ ec_
             subst ea_
             subst ec_
             clear en_
             have p182 : 0 ≤ (x6_2 : Int) := of_decide_eq_true (by assumption)
             have q182 : x6_2 < (((rd_T42 l0_0 x4_1).f1).length : Int) := of_decide_eq_true (by assumption)
             obtain ⟨ad182, e182, qf, qe, qn, qm, qg, qb⟩ := at_T46 HR181_1.out x6_2 p182 q182
             cases e182
             replace qf := pw_cell_below HB.out qf
             replace qe := pw_cell_below HB.out qe
             replace qn := pw_cell_below HB.out qn
             replace qm := pw_cell_below HB.out qm
             replace qg := pw_cell_below HB.out qg
             replace qb := pw_cell_below HB.out qb
             replace p182 := eq_true p182
             replace q182 := eq_true q182
             go_wp2_with (first | ((with_reducible refine gate_builtin (b := .append) (xs := #[.tmp 37, .tmp 48]) rfl ?_); at_builtin; refine Kd.R_append Kd.string (w0 := w) w.heap.size rfl (.tmp 37) (.tmp 48) 52 9 (.string ⟨#[]⟩) 16 rfl Tryz.underlying52 info9 rfl (by decide) (by omega) u5 x5_2 ((rd_T46 ((rd_T42 l0_0 x4_1).f1) x6_2).f0) [.string ((rd_T46 ((rd_T42 l0_0 x4_1).f1) x6_2).f0)] (fun k_ => some k_ ≠ (v175 : Value).ownBlock) (fun _ => False) rfl rfl ?aP (fun _ hk => hk.elim) ?aF ?aO ?aB ?aS ?aL ?_; (case aP => exact rfl); (case aB => exact (by repeat (first | (with_reducible first | exact HB.out | apply below_alloc | apply pw_below_drewN | apply below_drew1 | refine below_set ?_ qu.out) | exact HB.out))); (case aF => exact (fun k_ hk => Kd.fresh' (Kd.R_lt (by (with_reducible repeat (first | apply Kd.R_alloc | apply Kd.R_drewN | apply Kd.R_drew)); exact HO_3.out)) k_ hk)); (case aO => exact (by (with_reducible repeat (first | apply Kd.R_alloc | apply Kd.R_drewN | apply Kd.R_drew)); exact HO_5.out)); (case aS => exact (below_size (by repeat (first | (with_reducible first | exact HB.out | apply below_alloc | apply pw_below_drewN | apply below_drew1 | refine below_set ?_ qu.out) | exact HB.out)))); (case aL => have := LMc16.out; omega); intro v184 w18 ho hb hg hat; rw [← Ny183.out] at ho; have n0_ := Aside0.mk (Kd.R_after (ok := (fun _ => True)) (by (with_reducible repeat (first | apply Kd.R_alloc | apply Kd.R_drewN | apply Kd.R_drew)); exact Kd.R_mono HO_3.out (fun _ hk => ⟨trivial, hk⟩)) hg hat); have n1_ := Aside0.mk (blk_grown (g := gb169) (o := .cells #[.slice (some ad173) l0_0.length c0_0, .slice A0_1 l0_1.length c0_1] 26 (0, 0)) (by (with_reducible repeat (first | refine blk_drewN ?_ _ | refine blk_drew ?_ | refine blk_alloc ?_ _)); exact qs.out) hg (Kd.R_ne HO_5.out qs.out (by decide))); have n2_ := Aside0.mk (hb); have n3_ := Aside0.mk (ho); clear HO_3; clear qs; clear HB; clear HO_5; have HO_3 := n0_; have qs := n1_; have HB := n2_; have HO185 := n3_; clear n0_ n1_ n2_ n3_; clear ho hb hg hat))
             go_roundg k2
             case measure => have := HK1.out; have := HK2.out; omega
             case rel => exact ⟨(y183), (wrap64 (x6_2 + 1)), (by first | rfl | (simp; done) | (simp [*]; done)), H', ⟨by have := HK1.out; have := HK2.out; omega⟩, ⟨by (with_reducible repeat (first | apply Kd.R_alloc | apply Kd.R_drewN | apply Kd.R_drew)); exact Kd.R_mono HO_3.out (fun _ hk => hk.2)⟩, ⟨by (with_reducible repeat (first | apply Kd.R_alloc | apply Kd.R_drewN | apply Kd.R_drew)); exact HO185.out⟩, ⟨by (with_reducible repeat (first | refine blk_drewN ?_ _ | refine blk_drew ?_ | refine blk_alloc ?_ _)); exact qs.out⟩, ⟨by repeat (first | (with_reducible first | exact HB.out | apply below_alloc | apply pw_below_drewN | apply below_drew1 | refine below_set ?_ qu.out) | exact HB.out)⟩⟩
            ·rw [if_neg c16] at H
             exact absurd H (by simp)
           ·rw [if_neg c15] at H
            exact absurd H (by simp)
          ·rw [if_neg c14] at H
           have c14b0 : decide (x6_2 < (((rd_T42 l0_0 x4_1).f1).length : Int)) = false := decide_eq_false c14
           clear c14
           replace H := Option.bind_eq_some_iff.mp H
           obtain ⟨t186, A190, H⟩ := H
           replace H : (if t186 = true then (some true) else (spec_l9Names.l0 k2 y174 (wrap64 (x4_1 + 1)) l0_0 l0_1)) = some r := H
           have A19 := Aside0.mk A190
           clear A190
           by_cases c20 : t186 = true
           ·subst c20
            have H1 : (some true) = some r := by rw [if_pos rfl] at H; exact H
            clear H
            have H := H1
            clear H1
            obtain rfl := Option.some.inj H
            have hcz21_0 : wr.cell? ⟨gb169, 0, none⟩ = some (.slice (some ad173) l0_0.length c0_0) := (blk_cell qs.out 0).trans rfl
            have hcz21_1 : wr.cell? ⟨gb169, 1, none⟩ = some (.slice A0_1 l0_1.length c0_1) := (blk_cell qs.out 1).trans rfl
            have hfz21_0 := blk_frozen qs.out 0
            have hfz21_1 := blk_frozen qs.out 1
            have p180 : 0 ≤ (x4_1 : Int) := of_decide_eq_true (by assumption)
            have q180 : x4_1 < (l0_0.length : Int) := of_decide_eq_true (by assumption)
            obtain ⟨ad180, A180_1, c180_1, e180, qp, qi, hl180_1, hi180_1⟩ := at_T42 HR0_0.out x4_1 p180 q180
            obtain rfl : ad173 = ad180 := (by injection e180)
            replace qp := pw_cell_below HB.out qp
            replace qi := pw_cell_below HB.out qi
            have HR180_1 := Aside0.mk hi180_1
            have HC180_1 := Aside0.mk hl180_1
            clear hi180_1 hl180_1
            replace p180 := eq_true p180
            replace q180 := eq_true q180
            obtain ⟨Ao22, co22, eo22⟩ := Kd.R_slice HO_5.out
            subst eo22
            go_wp2_with (first | ((with_reducible refine gate_callee (f := 55) rfl ?_); refine goesL_ (some 51) rfl rfl Tryz.func55 (by kernel_rfl) rfl #[.slice Ao22 x5_2.length co22] rfl (by (try simp only [List.map_toArray, List.map_cons, List.map_nil]); first | done | rfl | (simp only [List.length_drop, List.length_take]; rfl)) ?_; (with_reducible refine (spec_l9Twice.calls k2 _ _ x5_2 true _ ?side1 ?side2 A19.out).mono ?_); (case side1 => repeat (first | exact (Kd.R_reads' HO_5.out).2.2 | (with_reducible refine Kd.C_alloc ?_ _) | (with_reducible refine Kd.C_drewN ?_ _) | (with_reducible refine Kd.C_drew ?_))); (case side2 => exact (Kd.R_reads' HO_5.out).2.1); rintro e w' ⟨rfl, ⟨nd, rfl⟩⟩; refine ⟨_, rfl, ?_⟩))
            go_ret
            exact ⟨by first | rfl | (simp [errW_none, errW_some] <;> rfl) | (simp [*, errW_none, errW_some] <;> rfl) | (simp only [Bool.and_eq_true, beq_iff_eq, Bool.not_eq_true', Bool.not_eq_eq_eq_not, Bool.not_true, Bool.not_false] at *; simp [*]), by repeat (first | (with_reducible first | exact HB.out | apply below_alloc | apply pw_below_drewN | apply below_drew1 | refine below_set ?_ qu.out) | exact HB.out)⟩
           ·replace c20 := Bool.eq_false_iff.mpr c20
            subst c20
            have H1 : (spec_l9Names.l0 k2 y174 (wrap64 (x4_1 + 1)) l0_0 l0_1) = some r := by rw [if_neg (show ¬ (false = true) by decide)] at H; exact H
            clear H
            have H := H1
            clear H1
            have H' := Aside0.mk H
            clear H
            have hcz23_0 : wr.cell? ⟨gb169, 0, none⟩ = some (.slice (some ad173) l0_0.length c0_0) := (blk_cell qs.out 0).trans rfl
            have hcz23_1 : wr.cell? ⟨gb169, 1, none⟩ = some (.slice A0_1 l0_1.length c0_1) := (blk_cell qs.out 1).trans rfl
            have hfz23_0 := blk_frozen qs.out 0
            have hfz23_1 := blk_frozen qs.out 1
            have p180 : 0 ≤ (x4_1 : Int) := of_decide_eq_true (by assumption)
            have q180 : x4_1 < (l0_0.length : Int) := of_decide_eq_true (by assumption)
            obtain ⟨ad180, A180_1, c180_1, e180, qp, qi, hl180_1, hi180_1⟩ := at_T42 HR0_0.out x4_1 p180 q180
            obtain rfl : ad173 = ad180 := (by injection e180)
            replace qp := pw_cell_below HB.out qp
            replace qi := pw_cell_below HB.out qi
            have HR180_1 := Aside0.mk hi180_1
            have HC180_1 := Aside0.mk hl180_1
            clear hi180_1 hl180_1
            replace p180 := eq_true p180
            replace q180 := eq_true q180
            obtain ⟨Ao24, co24, eo24⟩ := Kd.R_slice HO_5.out
            subst eo24
            go_wp2_with (first | ((with_reducible refine gate_callee (f := 55) rfl ?_); refine goesL_ (some 51) rfl rfl Tryz.func55 (by kernel_rfl) rfl #[.slice Ao24 x5_2.length co24] rfl (by (try simp only [List.map_toArray, List.map_cons, List.map_nil]); first | done | rfl | (simp only [List.length_drop, List.length_take]; rfl)) ?_; (with_reducible refine (spec_l9Twice.calls k2 _ _ x5_2 false _ ?side1 ?side2 A19.out).mono ?_); (case side1 => repeat (first | exact (Kd.R_reads' HO_5.out).2.2 | (with_reducible refine Kd.C_alloc ?_ _) | (with_reducible refine Kd.C_drewN ?_ _) | (with_reducible refine Kd.C_drew ?_))); (case side2 => exact (Kd.R_reads' HO_5.out).2.1); rintro e w' ⟨rfl, ⟨nd, rfl⟩⟩; refine ⟨_, rfl, ?_⟩))
            go_roundg k2
            case measure => have := HK1.out; have := HK2.out; omega
            case rel => exact ⟨(y174), (wrap64 (x4_1 + 1)), (by first | rfl | (simp; done) | (simp [*]; done)), H', ⟨by have := HK1.out; have := HK2.out; omega⟩, ⟨by (with_reducible repeat (first | apply Kd.R_alloc | apply Kd.R_drewN | apply Kd.R_drew)); exact Kd.R_mono HO_3.out (fun _ hk => trivial)⟩, ⟨by (with_reducible repeat (first | refine blk_drewN ?_ _ | refine blk_drew ?_ | refine blk_alloc ?_ _)); exact qs.out⟩, ⟨by repeat (first | (with_reducible first | exact HB.out | apply below_alloc | apply pw_below_drewN | apply below_drew1 | refine below_set ?_ qu.out) | exact HB.out)⟩⟩
         ·rw [if_neg c13] at H
          exact absurd H (by simp)
        ·rw [if_neg c12] at H
         exact absurd H (by simp)
     ·rw [if_neg c7] at H
      exact absurd H (by simp)
    ·rw [if_neg c6] at H
     exact absurd H (by simp)
   ·rw [if_neg c5] at H
    have c5b0 : decide (x4_1 < (l0_0.length : Int)) = false := decide_eq_false c5
    clear c5
    have H' := Aside0.mk H
    clear H
    have hcz25_0 : wr.cell? ⟨gb169, 0, none⟩ = some (.slice A0_0 l0_0.length c0_0) := (blk_cell qs.out 0).trans rfl
    have hcz25_1 : wr.cell? ⟨gb169, 1, none⟩ = some (.slice A0_1 l0_1.length c0_1) := (blk_cell qs.out 1).trans rfl
    have hfz25_0 := blk_frozen qs.out 0
    have hfz25_1 := blk_frozen qs.out 1
    go_wp2
    go_loopg [3, 7] k1 (fun kq v3 v7 w' => ∃ (x3_2 : List ByteArray) (x7_2 : Int), v7 = .int .i64 x7_2 ∧ Aside0 (spec_l9Names.l2 kq x3_2 x7_2 l0_0 l0_1 = some r) ∧ Aside0 (kq ≤ k1) ∧ Aside0 (Kd.R Kd.string 9 w' w.heap.size (fun _ => True) v3 x3_2) ∧ Aside0 (w'.heap[gb169]? = some (.cells #[(.slice A0_0 l0_0.length c0_0), (.slice A0_1 l0_1.length c0_1)] 26 (0, 0))) ∧ Aside0 (Below w.heap.size w w'))
    case atStart => exact ⟨(x3_1), (0), (by first | rfl | (simp; done) | (simp [*]; done)), H', ⟨Nat.le_refl _⟩, ⟨by (with_reducible repeat (first | apply Kd.R_alloc | apply Kd.R_drewN | apply Kd.R_drew)); exact HO_3.out⟩, ⟨by (with_reducible repeat (first | refine blk_drewN ?_ _ | refine blk_drew ?_ | refine blk_alloc ?_ _)); exact qs.out⟩, ⟨by repeat (first | (with_reducible first | exact HB.out | apply below_alloc | apply pw_below_drewN | apply below_drew1 | refine below_set ?_ qu.out) | exact HB.out)⟩⟩
    case round =>
     clear H'
     try clear c1
     try clear p1
     try clear q1
     try clear hx1
     try clear c2
     try clear p2
     try clear c3
     try clear c5
     try clear c5b0
     try clear c6
     try clear c6b0
     try clear p6
     try clear c7
     try clear c12
     try clear c12b0
     try clear c13
     try clear c13b0
     try clear c14
     try clear c14b0
     try clear c15
     try clear c15b0
     try clear c16
     try clear c17
     try clear p17
     try clear q17
     try clear hx17
     try clear c18
     try clear p18
     try clear q18
     try clear hx18
     try clear c20
     try clear hcz17_0
     try clear hcz17_1
     try clear hcz21_0
     try clear hcz21_1
     try clear hcz23_0
     try clear hcz23_1
     try clear hcz25_0
     try clear hcz25_1
     try clear hcz8_0
     try clear hcz8_1
     try clear hfz17_0
     try clear hfz17_1
     try clear hfz21_0
     try clear hfz21_1
     try clear hfz23_0
     try clear hfz23_1
     try clear hfz25_0
     try clear hfz25_1
     try clear hfz8_0
     try clear hfz8_1
     try clear qk
     try clear qa
     try clear qp
     try clear qi
     try clear ql
     try clear qh
     try clear qf
     try clear qe
     try clear qn
     try clear qm
     try clear qg
     try clear qb
     try clear p1
     try clear p173
     try clear p180
     try clear p181
     try clear p182
     try clear p2
     try clear q1
     try clear q173
     try clear q180
     try clear q181
     try clear q182
     obtain ⟨x3_2, x7_2, rfl, HA, HK2, HO_3, qs, HB⟩ := hrel
     cases gk with
     | zero => exact absurd HA.out (by simp [spec_l9Names.l2])
     | succ k2 =>
      have H := HA.out
      clear HA
      simp only [spec_l9Names.l2] at H
      by_cases c26 : x7_2 < (l0_1.length : Int)
      ·rw [if_pos c26] at H
       have c26b0 : decide (x7_2 < (l0_1.length : Int)) = true := decide_eq_true c26
       clear c26
       by_cases c27 : 0 ≤ x7_2
       ·rw [if_pos c27] at H
        have c27b0 : decide (0 ≤ x7_2) = true := decide_eq_true c27
        clear c27
        by_cases c28 : x3_2.length < 8796093022208
        ·rw [if_pos c28] at H
         have LMc28 := Aside0.mk c28
         clear c28
         obtain ⟨y188, hy188⟩ : ∃ y_ : List ByteArray, y_ = (x3_2 ++ [(rd_T70 l0_1 x7_2).f0]) := ⟨_, rfl⟩
         replace H : ((spec_l9Twice.f k2 ((rd_T70 l0_1 x7_2).f1)).bind fun t192 => (if t192 = true then (some true) else (spec_l9Names.l2 k2 y188 (wrap64 (x7_2 + 1)) l0_0 l0_1))) = some r := by first | (rw [hy188]; with_reducible exact H) | (have H2_ := (Option.bind_some _ _).symm.trans H; rw [hy188]; with_reducible exact H2_) | (have H2_ := (Option.bind_some _ _).symm.trans H; with_reducible exact H2_) | with_reducible exact H | (rw [hy188]; exact H) | exact H
         have Ny188 := Aside0.mk hy188
         clear hy188
         replace H := Option.bind_eq_some_iff.mp H
         obtain ⟨t192, A290, H⟩ := H
         replace H : (if t192 = true then (some true) else (spec_l9Names.l2 k2 y188 (wrap64 (x7_2 + 1)) l0_0 l0_1)) = some r := H
         have A29 := Aside0.mk A290
         clear A290
         by_cases c30 : t192 = true
         ·subst c30
          have H1 : (some true) = some r := by rw [if_pos rfl] at H; exact H
          clear H
          have H := H1
          clear H1
          obtain rfl := Option.some.inj H
          have hcz31_0 : wr.cell? ⟨gb169, 0, none⟩ = some (.slice A0_0 l0_0.length c0_0) := (blk_cell qs.out 0).trans rfl
          have hcz31_1 : wr.cell? ⟨gb169, 1, none⟩ = some (.slice A0_1 l0_1.length c0_1) := (blk_cell qs.out 1).trans rfl
          have hfz31_0 := blk_frozen qs.out 0
          have hfz31_1 := blk_frozen qs.out 1
          have p187 : 0 ≤ (x7_2 : Int) := of_decide_eq_true (by assumption)
          have q187 : x7_2 < (l0_1.length : Int) := of_decide_eq_true (by assumption)
          obtain ⟨ad187, A187_1, c187_1, e187, qq, qj, hl187_1, hi187_1⟩ := at_T70 HR0_1.out x7_2 p187 q187
          cases e187
          replace qq := pw_cell_below HB.out qq
          replace qj := pw_cell_below HB.out qj
          have HR187_1 := Aside0.mk hi187_1
          have HC187_1 := Aside0.mk hl187_1
          clear hi187_1 hl187_1
          replace p187 := eq_true p187
          replace q187 := eq_true q187
          go_wp2_with (first | ((with_reducible refine gate_builtin (b := .append) (xs := #[.tmp 59, .tmp 66]) rfl ?_); at_builtin; refine Kd.R_append Kd.string (w0 := w) w.heap.size rfl (.tmp 59) (.tmp 66) 52 9 (.string ⟨#[]⟩) 16 rfl Tryz.underlying52 info9 rfl (by decide) (by omega) u3 x3_2 ((rd_T70 l0_1 x7_2).f0) [.string ((rd_T70 l0_1 x7_2).f0)] (fun _ => True) (fun _ => False) rfl rfl ?aP (fun _ hk => hk.elim) ?aF ?aO ?aB ?aS ?aL ?_; (case aP => exact rfl); (case aB => exact (by repeat (first | (with_reducible first | exact HB.out | apply below_alloc | apply pw_below_drewN | apply below_drew1 | refine below_set ?_ qu.out) | exact HB.out))); (case aF => exact (fun _ _ => trivial)); (case aO => exact (by (with_reducible repeat (first | apply Kd.R_alloc | apply Kd.R_drewN | apply Kd.R_drew)); exact HO_3.out)); (case aS => exact (below_size (by repeat (first | (with_reducible first | exact HB.out | apply below_alloc | apply pw_below_drewN | apply below_drew1 | refine below_set ?_ qu.out) | exact HB.out)))); (case aL => have := LMc28.out; omega); intro v189 w32 ho hb hg hat; rw [← Ny188.out] at ho; have n0_ := Aside0.mk (blk_grown (g := gb169) (o := .cells #[.slice A0_0 l0_0.length c0_0, .slice (some ad187) l0_1.length c0_1] 26 (0, 0)) (by (with_reducible repeat (first | refine blk_drewN ?_ _ | refine blk_drew ?_ | refine blk_alloc ?_ _)); exact qs.out) hg (Kd.R_ne HO_3.out qs.out (by decide))); have n1_ := Aside0.mk (hb); have n2_ := Aside0.mk (ho); clear qs; clear HB; clear HO_3; have qs := n0_; have HB := n1_; have HO190 := n2_; clear n0_ n1_ n2_; clear ho hb hg hat; have hcz33_0 : w32.cell? ⟨gb169, 0, none⟩ = some (.slice A0_0 l0_0.length c0_0) := (blk_cell qs.out 0).trans rfl; have hcz33_1 : w32.cell? ⟨gb169, 1, none⟩ = some (.slice (some ad187) l0_1.length c0_1) := (blk_cell qs.out 1).trans rfl; have hfz33_0 := blk_frozen qs.out 0; have hfz33_1 := blk_frozen qs.out 1; have p191 : 0 ≤ (x7_2 : Int) := of_decide_eq_true (by assumption); have q191 : x7_2 < (l0_1.length : Int) := of_decide_eq_true (by assumption); obtain ⟨ad191, A191_1, c191_1, e191, qc, qr, hl191_1, hi191_1⟩ := at_T70 HR0_1.out x7_2 p191 q191; obtain rfl : ad187 = ad191 := (by injection e191); replace qc := pw_cell_below HB.out qc; replace qr := pw_cell_below HB.out qr; have HR191_1 := Aside0.mk hi191_1; have HC191_1 := Aside0.mk hl191_1; clear hi191_1 hl191_1; replace p191 := eq_true p191; replace q191 := eq_true q191) | ((with_reducible refine gate_callee (f := 55) rfl ?_); refine goesL_ (some 74) rfl rfl Tryz.func55 (by kernel_rfl) rfl #[.slice A191_1 ((rd_T70 l0_1 x7_2).f1).length c191_1] rfl (by (try simp only [List.map_toArray, List.map_cons, List.map_nil]); first | done | rfl | (simp only [List.length_drop, List.length_take]; rfl)) ?_; (with_reducible refine (spec_l9Twice.calls k2 _ _ ((rd_T70 l0_1 x7_2).f1) true _ ?side1 ?side2 A29.out).mono ?_); (case side1 => repeat (first | exact (Kd.C_below HR191_1.out HB.out) | (with_reducible refine Kd.C_alloc ?_ _) | (with_reducible refine Kd.C_drewN ?_ _) | (with_reducible refine Kd.C_drew ?_))); (case side2 => exact HC191_1.out); rintro e w' ⟨rfl, ⟨nd, rfl⟩⟩; refine ⟨_, rfl, ?_⟩))
          go_ret
          exact ⟨by first | rfl | (simp [errW_none, errW_some] <;> rfl) | (simp [*, errW_none, errW_some] <;> rfl) | (simp only [Bool.and_eq_true, beq_iff_eq, Bool.not_eq_true', Bool.not_eq_eq_eq_not, Bool.not_true, Bool.not_false] at *; simp [*]), by repeat (first | (with_reducible first | exact HB.out | apply below_alloc | apply pw_below_drewN | apply below_drew1 | refine below_set ?_ qu.out) | exact HB.out)⟩
         ·replace c30 := Bool.eq_false_iff.mpr c30
          subst c30
          have H1 : (spec_l9Names.l2 k2 y188 (wrap64 (x7_2 + 1)) l0_0 l0_1) = some r := by rw [if_neg (show ¬ (false = true) by decide)] at H; exact H
          clear H
          have H := H1
          clear H1
          have H' := Aside0.mk H
          clear H
          have hcz34_0 : wr.cell? ⟨gb169, 0, none⟩ = some (.slice A0_0 l0_0.length c0_0) := (blk_cell qs.out 0).trans rfl
          have hcz34_1 : wr.cell? ⟨gb169, 1, none⟩ = some (.slice A0_1 l0_1.length c0_1) := (blk_cell qs.out 1).trans rfl
          have hfz34_0 := blk_frozen qs.out 0
          have hfz34_1 := blk_frozen qs.out 1
          have p187 : 0 ≤ (x7_2 : Int) := of_decide_eq_true (by assumption)
          have q187 : x7_2 < (l0_1.length : Int) := of_decide_eq_true (by assumption)
          obtain ⟨ad187, A187_1, c187_1, e187, qq, qj, hl187_1, hi187_1⟩ := at_T70 HR0_1.out x7_2 p187 q187
          cases e187
          replace qq := pw_cell_below HB.out qq
          replace qj := pw_cell_below HB.out qj
          have HR187_1 := Aside0.mk hi187_1
          have HC187_1 := Aside0.mk hl187_1
          clear hi187_1 hl187_1
          replace p187 := eq_true p187
          replace q187 := eq_true q187
          go_wp2_with (first | ((with_reducible refine gate_builtin (b := .append) (xs := #[.tmp 59, .tmp 66]) rfl ?_); at_builtin; refine Kd.R_append Kd.string (w0 := w) w.heap.size rfl (.tmp 59) (.tmp 66) 52 9 (.string ⟨#[]⟩) 16 rfl Tryz.underlying52 info9 rfl (by decide) (by omega) u3 x3_2 ((rd_T70 l0_1 x7_2).f0) [.string ((rd_T70 l0_1 x7_2).f0)] (fun _ => True) (fun _ => False) rfl rfl ?aP (fun _ hk => hk.elim) ?aF ?aO ?aB ?aS ?aL ?_; (case aP => exact rfl); (case aB => exact (by repeat (first | (with_reducible first | exact HB.out | apply below_alloc | apply pw_below_drewN | apply below_drew1 | refine below_set ?_ qu.out) | exact HB.out))); (case aF => exact (fun _ _ => trivial)); (case aO => exact (by (with_reducible repeat (first | apply Kd.R_alloc | apply Kd.R_drewN | apply Kd.R_drew)); exact HO_3.out)); (case aS => exact (below_size (by repeat (first | (with_reducible first | exact HB.out | apply below_alloc | apply pw_below_drewN | apply below_drew1 | refine below_set ?_ qu.out) | exact HB.out)))); (case aL => have := LMc28.out; omega); intro v189 w35 ho hb hg hat; rw [← Ny188.out] at ho; have n0_ := Aside0.mk (blk_grown (g := gb169) (o := .cells #[.slice A0_0 l0_0.length c0_0, .slice (some ad187) l0_1.length c0_1] 26 (0, 0)) (by (with_reducible repeat (first | refine blk_drewN ?_ _ | refine blk_drew ?_ | refine blk_alloc ?_ _)); exact qs.out) hg (Kd.R_ne HO_3.out qs.out (by decide))); have n1_ := Aside0.mk (hb); have n2_ := Aside0.mk (ho); clear qs; clear HB; clear HO_3; have qs := n0_; have HB := n1_; have HO190 := n2_; clear n0_ n1_ n2_; clear ho hb hg hat; have hcz36_0 : w35.cell? ⟨gb169, 0, none⟩ = some (.slice A0_0 l0_0.length c0_0) := (blk_cell qs.out 0).trans rfl; have hcz36_1 : w35.cell? ⟨gb169, 1, none⟩ = some (.slice (some ad187) l0_1.length c0_1) := (blk_cell qs.out 1).trans rfl; have hfz36_0 := blk_frozen qs.out 0; have hfz36_1 := blk_frozen qs.out 1; have p191 : 0 ≤ (x7_2 : Int) := of_decide_eq_true (by assumption); have q191 : x7_2 < (l0_1.length : Int) := of_decide_eq_true (by assumption); obtain ⟨ad191, A191_1, c191_1, e191, qc, qr, hl191_1, hi191_1⟩ := at_T70 HR0_1.out x7_2 p191 q191; obtain rfl : ad187 = ad191 := (by injection e191); replace qc := pw_cell_below HB.out qc; replace qr := pw_cell_below HB.out qr; have HR191_1 := Aside0.mk hi191_1; have HC191_1 := Aside0.mk hl191_1; clear hi191_1 hl191_1; replace p191 := eq_true p191; replace q191 := eq_true q191) | ((with_reducible refine gate_callee (f := 55) rfl ?_); refine goesL_ (some 74) rfl rfl Tryz.func55 (by kernel_rfl) rfl #[.slice A191_1 ((rd_T70 l0_1 x7_2).f1).length c191_1] rfl (by (try simp only [List.map_toArray, List.map_cons, List.map_nil]); first | done | rfl | (simp only [List.length_drop, List.length_take]; rfl)) ?_; (with_reducible refine (spec_l9Twice.calls k2 _ _ ((rd_T70 l0_1 x7_2).f1) false _ ?side1 ?side2 A29.out).mono ?_); (case side1 => repeat (first | exact (Kd.C_below HR191_1.out HB.out) | (with_reducible refine Kd.C_alloc ?_ _) | (with_reducible refine Kd.C_drewN ?_ _) | (with_reducible refine Kd.C_drew ?_))); (case side2 => exact HC191_1.out); rintro e w' ⟨rfl, ⟨nd, rfl⟩⟩; refine ⟨_, rfl, ?_⟩))
          go_roundg k2
          case measure => have := HK1.out; have := HK2.out; omega
          case rel => exact ⟨(y188), (wrap64 (x7_2 + 1)), (by first | rfl | (simp; done) | (simp [*]; done)), H', ⟨by have := HK1.out; have := HK2.out; omega⟩, ⟨by (with_reducible repeat (first | apply Kd.R_alloc | apply Kd.R_drewN | apply Kd.R_drew)); exact HO190.out⟩, ⟨by (with_reducible repeat (first | refine blk_drewN ?_ _ | refine blk_drew ?_ | refine blk_alloc ?_ _)); exact qs.out⟩, ⟨by repeat (first | (with_reducible first | exact HB.out | apply below_alloc | apply pw_below_drewN | apply below_drew1 | refine below_set ?_ qu.out) | exact HB.out)⟩⟩
        ·rw [if_neg c28] at H
         exact absurd H (by simp)
       ·rw [if_neg c27] at H
        exact absurd H (by simp)
      ·rw [if_neg c26] at H
       have c26b0 : decide (x7_2 < (l0_1.length : Int)) = false := decide_eq_false c26
       clear c26
       replace H := Option.bind_eq_some_iff.mp H
       obtain ⟨t193, A370, H⟩ := H
       replace H : (some t193) = some r := H
       have A37 := Aside0.mk A370
       clear A370
       obtain rfl := Option.some.inj H
       have hcz38_0 : wr.cell? ⟨gb169, 0, none⟩ = some (.slice A0_0 l0_0.length c0_0) := (blk_cell qs.out 0).trans rfl
       have hcz38_1 : wr.cell? ⟨gb169, 1, none⟩ = some (.slice A0_1 l0_1.length c0_1) := (blk_cell qs.out 1).trans rfl
       have hfz38_0 := blk_frozen qs.out 0
       have hfz38_1 := blk_frozen qs.out 1
       obtain ⟨Ao39, co39, eo39⟩ := Kd.R_slice HO_3.out
       subst eo39
       go_wp2_with (first | ((with_reducible refine gate_callee (f := 55) rfl ?_); refine goesL_ (some 76) rfl rfl Tryz.func55 (by kernel_rfl) rfl #[.slice Ao39 x3_2.length co39] rfl (by (try simp only [List.map_toArray, List.map_cons, List.map_nil]); first | done | rfl | (simp only [List.length_drop, List.length_take]; rfl)) ?_; (with_reducible refine (spec_l9Twice.calls k2 _ _ x3_2 t193 _ ?side1 ?side2 A37.out).mono ?_); (case side1 => repeat (first | exact (Kd.R_reads' HO_3.out).2.2 | (with_reducible refine Kd.C_alloc ?_ _) | (with_reducible refine Kd.C_drewN ?_ _) | (with_reducible refine Kd.C_drew ?_))); (case side2 => exact (Kd.R_reads' HO_3.out).2.1); rintro e w' ⟨rfl, ⟨nd, rfl⟩⟩; refine ⟨_, rfl, ?_⟩))
       go_ret
       exact ⟨by first | rfl | (simp [errW_none, errW_some] <;> rfl) | (simp [*, errW_none, errW_some] <;> rfl) | (simp only [Bool.and_eq_true, beq_iff_eq, Bool.not_eq_true', Bool.not_eq_eq_eq_not, Bool.not_true, Bool.not_false] at *; simp [*]), by repeat (first | (with_reducible first | exact HB.out | apply below_alloc | apply pw_below_drewN | apply below_drew1 | refine below_set ?_ qu.out) | exact HB.out)⟩

end Go.Proofs.YtjeipkfeihahdaaGreatDoor.P
