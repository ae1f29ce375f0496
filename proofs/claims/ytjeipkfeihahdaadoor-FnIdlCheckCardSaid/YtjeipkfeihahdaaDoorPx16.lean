-- PRINTED by print.py (a twelfth state) out of the translation. Not trusted: Lean checks it.
import Derived.Test.YtjeipkfeihahdaaDoorPx0
import Derived.Test.YtjeipkfeihahdaaDoorPx15
namespace Go.Proofs.YtjeipkfeihahdaaDoor.P
open Go.RowKit Go.Proofs.YtjeipkfeihahdaaDoorW.PrintWords Go.Proofs.YtjeipkfeihahdaaDoorW.PrintLast Go.Proofs.YtjeipkfeihahdaaDoorW.PrintMore
attribute [local go_sem] max2_int min2_int max_two min_two max_three min_three max_four min_four   -- for this text's walks alone
set_option linter.unusedVariables false
set_option linter.unusedSimpArgs false

/-! ### spec_l9Names: function 21 -/
mutual
def spec_l9Names.l0 : Nat → List ByteArray → Int → List (S32) → List (S65) → Option (Bool)
 | 0, _, _, _, _ => none
 | k + 1, x3, x4, qf, qh => if x4 < (qf.length : Int) then (if 0 ≤ x4 then (if x3.length < 8796093022208 then (spec_l9Names.l1 k (x3 ++ [(rd_T32 qf x4).f0]) x4 (([] : List ByteArray)) 0 qf qh) else (none)) else (none)) else (spec_l9Names.l2 k x3 0 qf qh)
def spec_l9Names.l1 : Nat → List ByteArray → Int → List ByteArray → Int → List (S32) → List (S65) → Option (Bool)
 | 0, _, _, _, _, _, _ => none
 | k + 1, x3, x4, x5, x6, qf, qh => if 0 ≤ x4 then (if x4 < (qf.length : Int) then (if x6 < (((rd_T32 qf x4).f1).length : Int) then (if 0 ≤ x6 then (if x5.length < 8796093022208 then (spec_l9Names.l1 k x3 x4 (x5 ++ [(rd_T36 ((rd_T32 qf x4).f1) x6).f0]) (wrap64 (x6 + 1)) qf qh) else (none)) else (none)) else ((spec_l9Twice.f k x5).bind fun t332 => (if t332 = true then (some true) else (spec_l9Names.l0 k x3 (wrap64 (x4 + 1)) qf qh)))) else (none)) else (none)
def spec_l9Names.l2 : Nat → List ByteArray → Int → List (S32) → List (S65) → Option (Bool)
 | 0, _, _, _, _ => none
 | k + 1, x3, x7, qf, qh => if x7 < (qh.length : Int) then (if 0 ≤ x7 then (if x3.length < 8796093022208 then ((spec_l9Twice.f k ((rd_T65 qh x7).f1)).bind fun t338 => (if t338 = true then (some true) else (spec_l9Names.l2 k (x3 ++ [(rd_T65 qh x7).f0]) (wrap64 (x7 + 1)) qf qh))) else (none)) else (none)) else ((spec_l9Twice.f k x3).bind fun t339 => (some t339))
end
def spec_l9Names.f (k : Nat) (l0_0 : List (S32)) (l0_1 : List (S65)) : Option (Bool) := spec_l9Names.l0 k (([] : List ByteArray)) 0 l0_0 l0_1
theorem spec_l9Names.mono_l : ∀ k, (∀ y0 y1 y2 y3, LeO (spec_l9Names.l0 k y0 y1 y2 y3) (spec_l9Names.l0 (k + 1) y0 y1 y2 y3)) ∧ (∀ y0 y1 y2 y3 y4 y5, LeO (spec_l9Names.l1 k y0 y1 y2 y3 y4 y5) (spec_l9Names.l1 (k + 1) y0 y1 y2 y3 y4 y5)) ∧ (∀ y0 y1 y2 y3, LeO (spec_l9Names.l2 k y0 y1 y2 y3) (spec_l9Names.l2 (k + 1) y0 y1 y2 y3))
 | 0 => ⟨fun _ _ _ _ r h => by simp [spec_l9Names.l0] at h, fun _ _ _ _ _ _ r h => by simp [spec_l9Names.l1] at h, fun _ _ _ _ r h => by simp [spec_l9Names.l2] at h⟩
 | k + 1 => by
  obtain ⟨ih0, ih1, ih2⟩ := spec_l9Names.mono_l k
  refine ⟨?_, ?_, ?_⟩
  ·intro y0 y1 y2 y3
   unfold spec_l9Names.l0
   repeat' first
   | (with_reducible exact ih0 _ _ _ _)
   | (with_reducible exact ih1 _ _ _ _ _ _)
   | (with_reducible exact ih2 _ _ _ _)
   | (with_reducible exact spec_l9Twice.mono _ _)
   | (with_reducible exact LeO.refl _)
   | (with_reducible exact LeO.none _)
   | (with_reducible refine LeO.ite ?_ ?_)
   | (with_reducible refine LeO.bind ?_ (fun _ => ?_))
   | exact ih0 _ _ _ _
   | exact ih1 _ _ _ _ _ _
   | exact ih2 _ _ _ _
   | exact spec_l9Twice.mono _ _
   | exact LeO.none _
   | refine LeO.ite ?_ ?_
   | refine LeO.bind ?_ (fun _ => ?_)
  ·intro y0 y1 y2 y3 y4 y5
   unfold spec_l9Names.l1
   repeat' first
   | (with_reducible exact ih0 _ _ _ _)
   | (with_reducible exact ih1 _ _ _ _ _ _)
   | (with_reducible exact ih2 _ _ _ _)
   | (with_reducible exact spec_l9Twice.mono _ _)
   | (with_reducible exact LeO.refl _)
   | (with_reducible exact LeO.none _)
   | (with_reducible refine LeO.ite ?_ ?_)
   | (with_reducible refine LeO.bind ?_ (fun _ => ?_))
   | exact ih0 _ _ _ _
   | exact ih1 _ _ _ _ _ _
   | exact ih2 _ _ _ _
   | exact spec_l9Twice.mono _ _
   | exact LeO.none _
   | refine LeO.ite ?_ ?_
   | refine LeO.bind ?_ (fun _ => ?_)
  ·intro y0 y1 y2 y3
   unfold spec_l9Names.l2
   repeat' first
   | (with_reducible exact ih0 _ _ _ _)
   | (with_reducible exact ih1 _ _ _ _ _ _)
   | (with_reducible exact ih2 _ _ _ _)
   | (with_reducible exact spec_l9Twice.mono _ _)
   | (with_reducible exact LeO.refl _)
   | (with_reducible exact LeO.none _)
   | (with_reducible refine LeO.ite ?_ ?_)
   | (with_reducible refine LeO.bind ?_ (fun _ => ?_))
   | exact ih0 _ _ _ _
   | exact ih1 _ _ _ _ _ _
   | exact ih2 _ _ _ _
   | exact spec_l9Twice.mono _ _
   | exact LeO.none _
   | refine LeO.ite ?_ ?_
   | refine LeO.bind ?_ (fun _ => ?_)
theorem spec_l9Names.mono : ∀ a0 a1 k, LeO (spec_l9Names.f k a0 a1) (spec_l9Names.f (k + 1) a0 a1) := by
 intro a0 a1 k
 obtain ⟨ih0, ih1, ih2⟩ := spec_l9Names.mono_l k
 unfold spec_l9Names.f
 repeat' first
   | (with_reducible exact ih0 _ _ _ _)
   | (with_reducible exact ih1 _ _ _ _ _ _)
   | (with_reducible exact ih2 _ _ _ _)
   | (with_reducible exact spec_l9Twice.mono _ _)
   | (with_reducible exact LeO.refl _)
   | (with_reducible exact LeO.none _)
   | (with_reducible refine LeO.ite ?_ ?_)
   | (with_reducible refine LeO.bind ?_ (fun _ => ?_))
   | exact ih0 _ _ _ _
   | exact ih1 _ _ _ _ _ _
   | exact ih2 _ _ _ _
   | exact spec_l9Twice.mono _ _
   | exact LeO.none _
   | refine LeO.ite ?_ ?_
   | refine LeO.bind ?_ (fun _ => ?_)
set_option maxHeartbeats 8000000 in
set_option maxRecDepth 100000 in
theorem spec_l9Names.calls (k : Nat) (A0_0 : Option Addr) (c0_0 : Nat) (l0_0 : List (S32)) (A0_1 : Option Addr) (c0_1 : Nat) (l0_1 : List (S65)) (r : Bool) (w : World) (hr0_0 : Kd.C k32 w A0_0 l0_0.length l0_0) (hc0_0 : l0_0.length ≤ c0_0) (hr0_1 : Kd.C k65 w A0_1 l0_1.length l0_1) (hc0_1 : l0_1.length ≤ c0_1) (h : spec_l9Names.f k l0_0 l0_1 = some r) :
  Calls Tryd.prog 21 #[.agg #[.slice A0_0 l0_0.length c0_0, .slice A0_1 l0_1.length c0_1]] w fun e w' => e = .returned (.bool r) ∧ Below w.heap.size w w' := by
 have hu26 := Tryd.underlying26
 have HR0_0 := Aside0.mk hr0_0
 have HC0_0 := Aside0.mk hc0_0
 clear hr0_0 hc0_0
 have HR0_1 := Aside0.mk hr0_1
 have HC0_1 := Aside0.mk hc0_1
 clear hr0_1 hc0_1
 have HB := Aside0.mk (Below.refl w.heap.size w)
 have H : (spec_l9Names.l0 k (([] : List ByteArray)) 0 l0_0 l0_1) = some r := h
 clear h
 obtain ⟨y316, hy316⟩ : ∃ y_ : List ByteArray, y_ = (([] : List ByteArray)) := ⟨_, rfl⟩
 replace H : (spec_l9Names.l0 k y316 0 l0_0 l0_1) = some r := by first | (rw [hy316]; with_reducible exact H) | (have H2_ := (Option.bind_some _ _).symm.trans H; rw [hy316]; with_reducible exact H2_) | (have H2_ := (Option.bind_some _ _).symm.trans H; with_reducible exact H2_) | with_reducible exact H | (rw [hy316]; exact H) | exact H
 have Ny316 := Aside0.mk hy316
 clear hy316
 have H' := Aside0.mk H
 clear H
 go_enter Tryd.func21, Tryd.ntmps21
 go_wp2_with (first | ((with_reducible refine gate_dst (N := 1) rfl ?_); refine box_event ?hg (N := 1) ?hd (cs := #[.slice A0_0 l0_0.length c0_0, .slice A0_1 l0_1.length c0_1]) (t := 26) ?hr ?_; (case hd => rfl); (case hg => rfl); (case hr => first | (go_simp; done) | (go_simp; rfl)); intro gb315 hg w2 hbox hb; have n0_ := Aside0.mk (below_step (by repeat (first | (with_reducible first | exact HB.out | apply below_alloc | apply pw_below_drewN | apply below_drew1) | exact HB.out)) hb); have n1_ := Aside0.mk (hbox); have n2_ := Aside0.mk ((by rw [hg]; exact (below_size (by repeat (first | (with_reducible first | exact HB.out | apply below_alloc | apply pw_below_drewN | apply below_drew1) | exact HB.out))) : w.heap.size ≤ gb315)); have n3_ := Aside0.mk ((by rw [hg]; exact (below_size (by repeat (first | (with_reducible first | exact HB.out | apply below_alloc | apply pw_below_drewN | apply below_drew1) | exact HB.out))) : w.heap.size ≤ gb315)); clear HB; have HB := n0_; have qu := n1_; have qt := n2_; have qs := n3_; clear n0_ n1_ n2_ n3_; clear hb hbox hg) | ((with_reducible refine gate_dst (N := 8) rfl ?_); refine Kd.R_lit Kd.string _ 9 ?hg (N := 8) ?hd (xs := ([] : List ByteArray)) (inner := []) (ok := fun _ => True) (okp := fun _ => True) ?hr ?hp (fun _ hk => hk) trivial (Below.refl _ _) (Nat.le_refl _) (by simp) ?_; (case hd => rfl); (case hg => rfl); (case hr => first | (go_simp; done) | (go_simp; rfl)); (case hp => exact (Reps.none _ _)); intro v317 w3 ho4 hb hg_ hnew_; clear hg_ hnew_; (first | rw [← Ny316.out] at ho4 | (simp only [Int.reduceToNat] at ho4; rw [← Ny316.out] at ho4)); have n0_ := Aside0.mk (Kd.R_lower ho4 (below_size (by repeat (first | (with_reducible first | exact HB.out | apply below_alloc | apply pw_below_drewN | apply below_drew1 | refine below_set ?_ qs.out) | exact HB.out)))); have n1_ := Aside0.mk (blk_below (g := gb315) (o := .cells #[.slice A0_0 l0_0.length c0_0, .slice A0_1 l0_1.length c0_1] 26 (0, 0)) (by (with_reducible repeat (first | refine blk_drewN ?_ _ | refine blk_drew ?_ | refine blk_alloc ?_ _)); exact qu.out) hb); have n2_ := Aside0.mk (below_step (by repeat (first | (with_reducible first | exact HB.out | apply below_alloc | apply pw_below_drewN | apply below_drew1 | refine below_set ?_ qs.out) | exact HB.out)) hb); clear qu; clear HB; have HO318 := n0_; have qu := n1_; have HB := n2_; clear n0_ n1_ n2_; clear hb ho4))
 go_loopg [3, 4] k (fun kq v3 v4 w' => ∃ (x3_1 : List ByteArray) (x4_1 : Int), v4 = .int .i64 x4_1 ∧ Aside0 (spec_l9Names.l0 kq x3_1 x4_1 l0_0 l0_1 = some r) ∧ Aside0 (kq ≤ k) ∧ Aside0 (Kd.R Kd.string 9 w' w.heap.size (fun _ => True) v3 x3_1) ∧ Aside0 (w'.heap[gb315]? = some (.cells #[(.slice A0_0 l0_0.length c0_0), (.slice A0_1 l0_1.length c0_1)] 26 (0, 0))) ∧ Aside0 (Below w.heap.size w w'))
 case atStart => exact ⟨(y316), (0), (by first | rfl | (simp; done) | (simp [*]; done)), H', ⟨Nat.le_refl _⟩, ⟨by (with_reducible repeat (first | apply Kd.R_alloc | apply Kd.R_drewN | apply Kd.R_drew)); exact HO318.out⟩, ⟨by (with_reducible repeat (first | refine blk_drewN ?_ _ | refine blk_drew ?_ | refine blk_alloc ?_ _)); exact qu.out⟩, ⟨by repeat (first | (with_reducible first | exact HB.out | apply below_alloc | apply pw_below_drewN | apply below_drew1 | refine below_set ?_ qs.out) | exact HB.out)⟩⟩
 case round =>
  clear H'
  try clear c2
  try clear p2
  obtain ⟨x3_1, x4_1, rfl, HA, HK1, HO_3, qu, HB⟩ := hrel
  cases gk with
  | zero => exact absurd HA.out (by simp [spec_l9Names.l0])
  | succ k1 =>
   have H := HA.out
   clear HA
   simp only [spec_l9Names.l0] at H
   by_cases c5 : x4_1 < (l0_0.length : Int)
   ·rw [if_pos c5] at H
    have c5b0 : decide (x4_1 < (l0_0.length : Int)) = true := decide_eq_true c5
    clear c5
    by_cases c6 : 0 ≤ x4_1
    ·rw [if_pos c6] at H
     have c6b0 : decide (0 ≤ x4_1) = true := decide_eq_true c6
     clear c6
     by_cases c7 : x3_1.length < 8796093022208
     ·rw [if_pos c7] at H
      have LMc7 := Aside0.mk c7
      clear c7
      obtain ⟨y320, hy320⟩ : ∃ y_ : List ByteArray, y_ = (x3_1 ++ [(rd_T32 l0_0 x4_1).f0]) := ⟨_, rfl⟩
      replace H : (spec_l9Names.l1 k1 y320 x4_1 (([] : List ByteArray)) 0 l0_0 l0_1) = some r := by first | (rw [hy320]; with_reducible exact H) | (have H2_ := (Option.bind_some _ _).symm.trans H; rw [hy320]; with_reducible exact H2_) | (have H2_ := (Option.bind_some _ _).symm.trans H; with_reducible exact H2_) | with_reducible exact H | (rw [hy320]; exact H) | exact H
      have Ny320 := Aside0.mk hy320
      clear hy320
      obtain ⟨y323, hy323⟩ : ∃ y_ : List ByteArray, y_ = (([] : List ByteArray)) := ⟨_, rfl⟩
      replace H : (spec_l9Names.l1 k1 y320 x4_1 y323 0 l0_0 l0_1) = some r := by first | (rw [hy323]; with_reducible exact H) | (have H2_ := (Option.bind_some _ _).symm.trans H; rw [hy323]; with_reducible exact H2_) | (have H2_ := (Option.bind_some _ _).symm.trans H; with_reducible exact H2_) | with_reducible exact H | (rw [hy323]; exact H) | exact H
      have Ny323 := Aside0.mk hy323
      clear hy323
      have H' := Aside0.mk H
      clear H
      have hcz8_0 : wr.cell? ⟨gb315, 0, none⟩ = some (.slice A0_0 l0_0.length c0_0) := (blk_cell qu.out 0).trans rfl
      have hcz8_1 : wr.cell? ⟨gb315, 1, none⟩ = some (.slice A0_1 l0_1.length c0_1) := (blk_cell qu.out 1).trans rfl
      have hfz8_0 := blk_frozen qu.out 0
      have hfz8_1 := blk_frozen qu.out 1
      have p319 : 0 ≤ (x4_1 : Int) := of_decide_eq_true (by first | (with_reducible assumption) | assumption)
      have q319 : x4_1 < (l0_0.length : Int) := of_decide_eq_true (by first | (with_reducible assumption) | assumption)
      obtain ⟨ad319, A319_1, c319_1, e319, qa, qo, hl319_1, hi319_1⟩ := at_T32 HR0_0.out x4_1 p319 q319
      cases e319
      replace qa := (HB.out.cell (World.block_lt_of_cell? w _ qa)).trans qa
      replace qo := (HB.out.cell (World.block_lt_of_cell? w _ qo)).trans qo
      have HR319_1 := Aside0.mk hi319_1
      have HC319_1 := Aside0.mk hl319_1
      clear hi319_1 hl319_1
      replace p319 := eq_true p319
      replace q319 := eq_true q319
      go_wp2_with (first | ((with_reducible refine gate_builtin (b := .append) (xs := #[.tmp 16, .tmp 23]) rfl ?_); at_builtin; refine Kd.R_append Kd.string (w0 := w) w.heap.size rfl (.tmp 16) (.tmp 23) 42 9 (.string ⟨#[]⟩) 16 rfl Tryd.underlying42 info9 rfl (by decide) (by omega) u3 x3_1 ((rd_T32 l0_0 x4_1).f0) [.string ((rd_T32 l0_0 x4_1).f0)] (fun _ => True) (fun _ => False) rfl rfl ?aP (fun _ hk => hk.elim) ?aF ?aO ?aB ?aS ?aL ?_; (case aP => exact rfl); (case aB => exact (by repeat (first | (with_reducible first | exact HB.out | apply below_alloc | apply pw_below_drewN | apply below_drew1 | refine below_set ?_ qs.out) | exact HB.out))); (case aF => exact (fun _ _ => trivial)); (case aO => exact (by (with_reducible repeat (first | apply Kd.R_alloc | apply Kd.R_drewN | apply Kd.R_drew)); exact HO_3.out)); (case aS => exact (below_size (by repeat (first | (with_reducible first | exact HB.out | apply below_alloc | apply pw_below_drewN | apply below_drew1 | refine below_set ?_ qs.out) | exact HB.out)))); (case aL => have := LMc7.out; omega); intro v321 w9 ho hb hg hat; rw [← Ny320.out] at ho; have n0_ := Aside0.mk (blk_grown (g := gb315) (o := .cells #[.slice (some ad319) l0_0.length c0_0, .slice A0_1 l0_1.length c0_1] 26 (0, 0)) (by (with_reducible repeat (first | refine blk_drewN ?_ _ | refine blk_drew ?_ | refine blk_alloc ?_ _)); exact qu.out) hg (Kd.R_ne HO_3.out qu.out (by decide))); have n1_ := Aside0.mk (hb); have n2_ := Aside0.mk (ho); clear qu; clear HB; clear HO_3; have qu := n0_; have HB := n1_; have HO322 := n2_; clear n0_ n1_ n2_; clear ho hb hg hat) | ((with_reducible refine gate_dst (N := 25) rfl ?_); refine Kd.R_lit Kd.string _ 9 ?hg (N := 25) ?hd (xs := ([] : List ByteArray)) (inner := []) (ok := fun _ => True) (okp := fun _ => True) ?hr ?hp (fun _ hk => hk) trivial (Below.refl _ _) (Nat.le_refl _) (by simp) ?_; (case hd => rfl); (case hg => rfl); (case hr => first | (go_simp; done) | (go_simp; rfl)); (case hp => exact (Reps.none _ _)); intro v324 w10 ho11 hb hg_ hnew_; clear hg_ hnew_; (first | rw [← Ny323.out] at ho11 | (simp only [Int.reduceToNat] at ho11; rw [← Ny323.out] at ho11)); have n0_ := Aside0.mk (Kd.R_elder' (by (with_reducible repeat (first | apply Kd.R_alloc | apply Kd.R_drewN | apply Kd.R_drew)); exact HO322.out) (Kd.R_base ho11) hb); have n1_ := Aside0.mk (Kd.R_lower (Kd.R_new' ho11 (Kd.R_lt (by (with_reducible repeat (first | apply Kd.R_alloc | apply Kd.R_drewN | apply Kd.R_drew)); exact HO322.out))) (below_size (by repeat (first | (with_reducible first | exact HB.out | apply below_alloc | apply pw_below_drewN | apply below_drew1 | refine below_set ?_ qs.out) | exact HB.out)))); have n2_ := Aside0.mk (blk_below (g := gb315) (o := .cells #[.slice (some ad319) l0_0.length c0_0, .slice A0_1 l0_1.length c0_1] 26 (0, 0)) (by (with_reducible repeat (first | refine blk_drewN ?_ _ | refine blk_drew ?_ | refine blk_alloc ?_ _)); exact qu.out) hb); have n3_ := Aside0.mk (below_step (by repeat (first | (with_reducible first | exact HB.out | apply below_alloc | apply pw_below_drewN | apply below_drew1 | refine below_set ?_ qs.out) | exact HB.out)) hb); clear HO322; clear qu; clear HB; have HO322 := n0_; have HO325 := n1_; have qu := n2_; have HB := n3_; clear n0_ n1_ n2_ n3_; clear hb ho11))
      go_loopg [5, 6] k1 (fun kq v5 v6 w' => ∃ (x5_2 : List ByteArray) (x6_2 : Int), v6 = .int .i64 x6_2 ∧ Aside0 (spec_l9Names.l1 kq y320 x4_1 x5_2 x6_2 l0_0 l0_1 = some r) ∧ Aside0 (kq ≤ k1) ∧ Aside0 (Kd.R Kd.string 9 w' w.heap.size (fun k_ => some k_ ≠ (v5 : Value).ownBlock) v321 y320) ∧ Aside0 (Kd.R Kd.string 9 w' w.heap.size (fun k_ => some k_ ≠ (v321 : Value).ownBlock) v5 x5_2) ∧ Aside0 (w'.heap[gb315]? = some (.cells #[(.slice (some ad319) l0_0.length c0_0), (.slice A0_1 l0_1.length c0_1)] 26 (0, 0))) ∧ Aside0 (Below w.heap.size w w'))
      case atStart => exact ⟨(y323), (0), (by first | rfl | (simp; done) | (simp [*]; done)), H', ⟨Nat.le_refl _⟩, ⟨by (with_reducible repeat (first | apply Kd.R_alloc | apply Kd.R_drewN | apply Kd.R_drew)); exact Kd.R_mono HO322.out (fun _ hk => hk.2)⟩, ⟨by (with_reducible repeat (first | apply Kd.R_alloc | apply Kd.R_drewN | apply Kd.R_drew)); exact Kd.R_mono HO325.out (fun _ hk => hk.2)⟩, ⟨by (with_reducible repeat (first | refine blk_drewN ?_ _ | refine blk_drew ?_ | refine blk_alloc ?_ _)); exact qu.out⟩, ⟨by repeat (first | (with_reducible first | exact HB.out | apply below_alloc | apply pw_below_drewN | apply below_drew1 | refine below_set ?_ qs.out) | exact HB.out)⟩⟩
      case round =>
       clear H'
       try clear c2
       try clear p2
       try clear c3
       try clear p3
       try clear q3
       try clear hx3
       try clear c5
       try clear c5b0
       try clear c6
       try clear c6b0
       try clear c7
       try clear hcz8_0
       try clear hcz8_1
       try clear hfz8_0
       try clear hfz8_1
       try clear qa
       try clear qo
       try clear p2
       try clear p319
       try clear q319
       obtain ⟨x5_2, x6_2, rfl, HA, HK2, HO_3, HO_5, qu, HB⟩ := hrel
       cases gk with
       | zero => exact absurd HA.out (by simp [spec_l9Names.l1])
       | succ k2 =>
        have H := HA.out
        clear HA
        simp only [spec_l9Names.l1] at H
        by_cases c12 : 0 ≤ x4_1
        ·rw [if_pos c12] at H
         have c12b0 : decide (0 ≤ x4_1) = true := decide_eq_true c12
         clear c12
         by_cases c13 : x4_1 < (l0_0.length : Int)
         ·rw [if_pos c13] at H
          have c13b0 : decide (x4_1 < (l0_0.length : Int)) = true := decide_eq_true c13
          clear c13
          by_cases c14 : x6_2 < (((rd_T32 l0_0 x4_1).f1).length : Int)
          ·rw [if_pos c14] at H
           have c14b0 : decide (x6_2 < (((rd_T32 l0_0 x4_1).f1).length : Int)) = true := decide_eq_true c14
           clear c14
           by_cases c15 : 0 ≤ x6_2
           ·rw [if_pos c15] at H
            have c15b0 : decide (0 ≤ x6_2) = true := decide_eq_true c15
            clear c15
            by_cases c16 : x5_2.length < 8796093022208
            ·rw [if_pos c16] at H
             have LMc16 := Aside0.mk c16
             clear c16
             obtain ⟨y329, hy329⟩ : ∃ y_ : List ByteArray, y_ = (x5_2 ++ [(rd_T36 ((rd_T32 l0_0 x4_1).f1) x6_2).f0]) := ⟨_, rfl⟩
             replace H : (spec_l9Names.l1 k2 y320 x4_1 y329 (wrap64 (x6_2 + 1)) l0_0 l0_1) = some r := by first | (rw [hy329]; with_reducible exact H) | (have H2_ := (Option.bind_some _ _).symm.trans H; rw [hy329]; with_reducible exact H2_) | (have H2_ := (Option.bind_some _ _).symm.trans H; with_reducible exact H2_) | with_reducible exact H | (rw [hy329]; exact H) | exact H
             have Ny329 := Aside0.mk hy329
             clear hy329
             have H' := Aside0.mk H
             clear H
             have hcz17_0 : wr.cell? ⟨gb315, 0, none⟩ = some (.slice (some ad319) l0_0.length c0_0) := (blk_cell qu.out 0).trans rfl
             have hcz17_1 : wr.cell? ⟨gb315, 1, none⟩ = some (.slice A0_1 l0_1.length c0_1) := (blk_cell qu.out 1).trans rfl
             have hfz17_0 := blk_frozen qu.out 0
             have hfz17_1 := blk_frozen qu.out 1
             have p326 : 0 ≤ (x4_1 : Int) := of_decide_eq_true (by first | (with_reducible assumption) | assumption)
             have q326 : x4_1 < (l0_0.length : Int) := of_decide_eq_true (by first | (with_reducible assumption) | assumption)
             obtain ⟨ad326, A326_1, c326_1, e326, qp, qj, hl326_1, hi326_1⟩ := at_T32 HR0_0.out x4_1 p326 q326
             obtain rfl : ad319 = ad326 := (by injection e326)
             replace qp := (HB.out.cell (World.block_lt_of_cell? w _ qp)).trans qp
             replace qj := (HB.out.cell (World.block_lt_of_cell? w _ qj)).trans qj
             have HR326_1 := Aside0.mk hi326_1
             have HC326_1 := Aside0.mk hl326_1
             clear hi326_1 hl326_1
             replace p326 := eq_true p326
             replace q326 := eq_true q326
             have p327 : 0 ≤ (x4_1 : Int) := of_decide_eq_true (by first | (with_reducible assumption) | assumption)
             have q327 : x4_1 < (l0_0.length : Int) := of_decide_eq_true (by first | (with_reducible assumption) | assumption)
             obtain ⟨ad327, A327_1, c327_1, e327, qn, qe, hl327_1, hi327_1⟩ := at_T32 HR0_0.out x4_1 p327 q327
             obtain rfl : ad319 = ad327 := (by injection e327)
             replace qn := (HB.out.cell (World.block_lt_of_cell? w _ qn)).trans qn
             replace qe := (HB.out.cell (World.block_lt_of_cell? w _ qe)).trans qe
             have HR327_1 := Aside0.mk hi327_1
             have HC327_1 := Aside0.mk hl327_1
             clear hi327_1 hl327_1
             replace p327 := eq_true p327
             replace q327 := eq_true q327
             have ea_ := Option.some.inj (qj.symm.trans qe)
             injection ea_ with ea_ en_ ec_
             subst ea_
             subst ec_
             clear en_
             have p328 : 0 ≤ (x6_2 : Int) := of_decide_eq_true (by first | (with_reducible assumption) | assumption)
             have q328 : x6_2 < (((rd_T32 l0_0 x4_1).f1).length : Int) := of_decide_eq_true (by first | (with_reducible assumption) | assumption)
             obtain ⟨ad328, e328, ql, qd, qr, qm, qi, qc⟩ := at_T36 HR327_1.out x6_2 p328 q328
             cases e328
             replace ql := (HB.out.cell (World.block_lt_of_cell? w _ ql)).trans ql
             replace qd := (HB.out.cell (World.block_lt_of_cell? w _ qd)).trans qd
             replace qr := (HB.out.cell (World.block_lt_of_cell? w _ qr)).trans qr
             replace qm := (HB.out.cell (World.block_lt_of_cell? w _ qm)).trans qm
             replace qi := (HB.out.cell (World.block_lt_of_cell? w _ qi)).trans qi
             replace qc := (HB.out.cell (World.block_lt_of_cell? w _ qc)).trans qc
             replace p328 := eq_true p328
             replace q328 := eq_true q328
             go_wp2_with (first | ((with_reducible refine gate_builtin (b := .append) (xs := #[.tmp 37, .tmp 48]) rfl ?_); at_builtin; refine Kd.R_append Kd.string (w0 := w) w.heap.size rfl (.tmp 37) (.tmp 48) 42 9 (.string ⟨#[]⟩) 16 rfl Tryd.underlying42 info9 rfl (by decide) (by omega) u5 x5_2 ((rd_T36 ((rd_T32 l0_0 x4_1).f1) x6_2).f0) [.string ((rd_T36 ((rd_T32 l0_0 x4_1).f1) x6_2).f0)] (fun k_ => some k_ ≠ (v321 : Value).ownBlock) (fun _ => False) rfl rfl ?aP (fun _ hk => hk.elim) ?aF ?aO ?aB ?aS ?aL ?_; (case aP => exact rfl); (case aB => exact (by repeat (first | (with_reducible first | exact HB.out | apply below_alloc | apply pw_below_drewN | apply below_drew1 | refine below_set ?_ qs.out) | exact HB.out))); (case aF => exact (fun k_ hk => Kd.fresh' (Kd.R_lt (by (with_reducible repeat (first | apply Kd.R_alloc | apply Kd.R_drewN | apply Kd.R_drew)); exact HO_3.out)) k_ hk)); (case aO => exact (by (with_reducible repeat (first | apply Kd.R_alloc | apply Kd.R_drewN | apply Kd.R_drew)); exact HO_5.out)); (case aS => exact (below_size (by repeat (first | (with_reducible first | exact HB.out | apply below_alloc | apply pw_below_drewN | apply below_drew1 | refine below_set ?_ qs.out) | exact HB.out)))); (case aL => have := LMc16.out; omega); intro v330 w18 ho hb hg hat; rw [← Ny329.out] at ho; have n0_ := Aside0.mk (Kd.R_after (ok := (fun _ => True)) (by (with_reducible repeat (first | apply Kd.R_alloc | apply Kd.R_drewN | apply Kd.R_drew)); exact Kd.R_mono HO_3.out (fun _ hk => ⟨trivial, hk⟩)) hg hat); have n1_ := Aside0.mk (blk_grown (g := gb315) (o := .cells #[.slice (some ad319) l0_0.length c0_0, .slice A0_1 l0_1.length c0_1] 26 (0, 0)) (by (with_reducible repeat (first | refine blk_drewN ?_ _ | refine blk_drew ?_ | refine blk_alloc ?_ _)); exact qu.out) hg (Kd.R_ne HO_5.out qu.out (by decide))); have n2_ := Aside0.mk (hb); have n3_ := Aside0.mk (ho); clear HO_3; clear qu; clear HB; clear HO_5; have HO_3 := n0_; have qu := n1_; have HB := n2_; have HO331 := n3_; clear n0_ n1_ n2_ n3_; clear ho hb hg hat))
             go_roundg k2
             case measure => have := HK1.out; have := HK2.out; omega
             case rel => exact ⟨(y329), (wrap64 (x6_2 + 1)), (by first | rfl | (simp; done) | (simp [*]; done)), H', ⟨by have := HK1.out; have := HK2.out; omega⟩, ⟨by (with_reducible repeat (first | apply Kd.R_alloc | apply Kd.R_drewN | apply Kd.R_drew)); exact Kd.R_mono HO_3.out (fun _ hk => hk.2)⟩, ⟨by (with_reducible repeat (first | apply Kd.R_alloc | apply Kd.R_drewN | apply Kd.R_drew)); exact HO331.out⟩, ⟨by (with_reducible repeat (first | refine blk_drewN ?_ _ | refine blk_drew ?_ | refine blk_alloc ?_ _)); exact qu.out⟩, ⟨by repeat (first | (with_reducible first | exact HB.out | apply below_alloc | apply pw_below_drewN | apply below_drew1 | refine below_set ?_ qs.out) | exact HB.out)⟩⟩
            ·rw [if_neg c16] at H
             exact absurd H (by simp)
           ·rw [if_neg c15] at H
            exact absurd H (by simp)
          ·rw [if_neg c14] at H
           have c14b0 : decide (x6_2 < (((rd_T32 l0_0 x4_1).f1).length : Int)) = false := decide_eq_false c14
           clear c14
           replace H := Option.bind_eq_some_iff.mp H
           obtain ⟨t332, A190, H⟩ := H
           replace H : (if t332 = true then (some true) else (spec_l9Names.l0 k2 y320 (wrap64 (x4_1 + 1)) l0_0 l0_1)) = some r := H
           have A19 := Aside0.mk A190
           clear A190
           by_cases c20 : t332 = true
           ·subst c20
            have H1 : (some true) = some r := by rw [if_pos rfl] at H; exact H
            clear H
            have H := H1
            clear H1
            obtain rfl := Option.some.inj H
            have hcz21_0 : wr.cell? ⟨gb315, 0, none⟩ = some (.slice (some ad319) l0_0.length c0_0) := (blk_cell qu.out 0).trans rfl
            have hcz21_1 : wr.cell? ⟨gb315, 1, none⟩ = some (.slice A0_1 l0_1.length c0_1) := (blk_cell qu.out 1).trans rfl
            have hfz21_0 := blk_frozen qu.out 0
            have hfz21_1 := blk_frozen qu.out 1
            have p326 : 0 ≤ (x4_1 : Int) := of_decide_eq_true (by first | (with_reducible assumption) | assumption)
            have q326 : x4_1 < (l0_0.length : Int) := of_decide_eq_true (by first | (with_reducible assumption) | assumption)
            obtain ⟨ad326, A326_1, c326_1, e326, qp, qj, hl326_1, hi326_1⟩ := at_T32 HR0_0.out x4_1 p326 q326
            obtain rfl : ad319 = ad326 := (by injection e326)
            replace qp := (HB.out.cell (World.block_lt_of_cell? w _ qp)).trans qp
            replace qj := (HB.out.cell (World.block_lt_of_cell? w _ qj)).trans qj
            have HR326_1 := Aside0.mk hi326_1
            have HC326_1 := Aside0.mk hl326_1
            clear hi326_1 hl326_1
            replace p326 := eq_true p326
            replace q326 := eq_true q326
            obtain ⟨Ao22, co22, eo22⟩ := Kd.R_slice HO_5.out
            subst eo22
            go_wp2_with (first | ((with_reducible refine gate_callee (f := 46) rfl ?_); refine goesL_ (some 51) rfl rfl Tryd.func46 (by kernel_rfl) rfl #[.slice Ao22 x5_2.length co22] rfl (by (try simp only [List.map_toArray, List.map_cons, List.map_nil]); first | done | rfl | (simp only [List.length_drop, List.length_take]; rfl)) ?_; (with_reducible refine (spec_l9Twice.calls k2 _ _ x5_2 true _ ?side1 ?side2 A19.out).mono ?_); (case side1 => repeat (first | exact (Kd.R_reads' HO_5.out).2.2 | (with_reducible refine Kd.C_alloc ?_ _) | (with_reducible refine Kd.C_drewN ?_ _) | (with_reducible refine Kd.C_drew ?_))); (case side2 => exact (Kd.R_reads' HO_5.out).2.1); rintro e w' ⟨rfl, ⟨nd, rfl⟩⟩; refine ⟨_, rfl, ?_⟩))
            go_ret
            exact ⟨by first | rfl | (simp [errW_none, errW_some] <;> rfl) | (simp [*, errW_none, errW_some] <;> rfl) | (simp only [Bool.and_eq_true, beq_iff_eq, Bool.not_eq_true', Bool.not_eq_eq_eq_not, Bool.not_true, Bool.not_false] at *; simp [*]), by repeat (first | (with_reducible first | exact HB.out | apply below_alloc | apply pw_below_drewN | apply below_drew1 | refine below_set ?_ qs.out) | exact HB.out)⟩
           ·replace c20 := Bool.eq_false_iff.mpr c20
            subst c20
            have H1 : (spec_l9Names.l0 k2 y320 (wrap64 (x4_1 + 1)) l0_0 l0_1) = some r := by rw [if_neg (show ¬ (false = true) by decide)] at H; exact H
            clear H
            have H := H1
            clear H1
            have H' := Aside0.mk H
            clear H
            have hcz23_0 : wr.cell? ⟨gb315, 0, none⟩ = some (.slice (some ad319) l0_0.length c0_0) := (blk_cell qu.out 0).trans rfl
            have hcz23_1 : wr.cell? ⟨gb315, 1, none⟩ = some (.slice A0_1 l0_1.length c0_1) := (blk_cell qu.out 1).trans rfl
            have hfz23_0 := blk_frozen qu.out 0
            have hfz23_1 := blk_frozen qu.out 1
            have p326 : 0 ≤ (x4_1 : Int) := of_decide_eq_true (by first | (with_reducible assumption) | assumption)
            have q326 : x4_1 < (l0_0.length : Int) := of_decide_eq_true (by first | (with_reducible assumption) | assumption)
            obtain ⟨ad326, A326_1, c326_1, e326, qp, qj, hl326_1, hi326_1⟩ := at_T32 HR0_0.out x4_1 p326 q326
            obtain rfl : ad319 = ad326 := (by injection e326)
            replace qp := (HB.out.cell (World.block_lt_of_cell? w _ qp)).trans qp
            replace qj := (HB.out.cell (World.block_lt_of_cell? w _ qj)).trans qj
            have HR326_1 := Aside0.mk hi326_1
            have HC326_1 := Aside0.mk hl326_1
            clear hi326_1 hl326_1
            replace p326 := eq_true p326
            replace q326 := eq_true q326
            obtain ⟨Ao24, co24, eo24⟩ := Kd.R_slice HO_5.out
            subst eo24
            go_wp2_with (first | ((with_reducible refine gate_callee (f := 46) rfl ?_); refine goesL_ (some 51) rfl rfl Tryd.func46 (by kernel_rfl) rfl #[.slice Ao24 x5_2.length co24] rfl (by (try simp only [List.map_toArray, List.map_cons, List.map_nil]); first | done | rfl | (simp only [List.length_drop, List.length_take]; rfl)) ?_; (with_reducible refine (spec_l9Twice.calls k2 _ _ x5_2 false _ ?side1 ?side2 A19.out).mono ?_); (case side1 => repeat (first | exact (Kd.R_reads' HO_5.out).2.2 | (with_reducible refine Kd.C_alloc ?_ _) | (with_reducible refine Kd.C_drewN ?_ _) | (with_reducible refine Kd.C_drew ?_))); (case side2 => exact (Kd.R_reads' HO_5.out).2.1); rintro e w' ⟨rfl, ⟨nd, rfl⟩⟩; refine ⟨_, rfl, ?_⟩))
            go_roundg k2
            case measure => have := HK1.out; have := HK2.out; omega
            case rel => exact ⟨(y320), (wrap64 (x4_1 + 1)), (by first | rfl | (simp; done) | (simp [*]; done)), H', ⟨by have := HK1.out; have := HK2.out; omega⟩, ⟨by (with_reducible repeat (first | apply Kd.R_alloc | apply Kd.R_drewN | apply Kd.R_drew)); exact Kd.R_mono HO_3.out (fun _ hk => trivial)⟩, ⟨by (with_reducible repeat (first | refine blk_drewN ?_ _ | refine blk_drew ?_ | refine blk_alloc ?_ _)); exact qu.out⟩, ⟨by repeat (first | (with_reducible first | exact HB.out | apply below_alloc | apply pw_below_drewN | apply below_drew1 | refine below_set ?_ qs.out) | exact HB.out)⟩⟩
         ·rw [if_neg c13] at H
          exact absurd H (by simp)
        ·rw [if_neg c12] at H
         exact absurd H (by simp)
     ·rw [if_neg c7] at H
      exact absurd H (by simp)
    ·rw [if_neg c6] at H
     exact absurd H (by simp)
   ·rw [if_neg c5] at H
    have c5b0 : decide (x4_1 < (l0_0.length : Int)) = false := decide_eq_false c5
    clear c5
    have H' := Aside0.mk H
    clear H
    have hcz25_0 : wr.cell? ⟨gb315, 0, none⟩ = some (.slice A0_0 l0_0.length c0_0) := (blk_cell qu.out 0).trans rfl
    have hcz25_1 : wr.cell? ⟨gb315, 1, none⟩ = some (.slice A0_1 l0_1.length c0_1) := (blk_cell qu.out 1).trans rfl
    have hfz25_0 := blk_frozen qu.out 0
    have hfz25_1 := blk_frozen qu.out 1
    go_wp2
    go_loopg [3, 7] k1 (fun kq v3 v7 w' => ∃ (x3_2 : List ByteArray) (x7_2 : Int), v7 = .int .i64 x7_2 ∧ Aside0 (spec_l9Names.l2 kq x3_2 x7_2 l0_0 l0_1 = some r) ∧ Aside0 (kq ≤ k1) ∧ Aside0 (Kd.R Kd.string 9 w' w.heap.size (fun _ => True) v3 x3_2) ∧ Aside0 (w'.heap[gb315]? = some (.cells #[(.slice A0_0 l0_0.length c0_0), (.slice A0_1 l0_1.length c0_1)] 26 (0, 0))) ∧ Aside0 (Below w.heap.size w w'))
    case atStart => exact ⟨(x3_1), (0), (by first | rfl | (simp; done) | (simp [*]; done)), H', ⟨Nat.le_refl _⟩, ⟨by (with_reducible repeat (first | apply Kd.R_alloc | apply Kd.R_drewN | apply Kd.R_drew)); exact HO_3.out⟩, ⟨by (with_reducible repeat (first | refine blk_drewN ?_ _ | refine blk_drew ?_ | refine blk_alloc ?_ _)); exact qu.out⟩, ⟨by repeat (first | (with_reducible first | exact HB.out | apply below_alloc | apply pw_below_drewN | apply below_drew1 | refine below_set ?_ qs.out) | exact HB.out)⟩⟩
    case round =>
     clear H'
     try clear c1
     try clear c2
     try clear p2
     try clear c3
     try clear p3
     try clear q3
     try clear hx3
     try clear c4
     try clear c5
     try clear c5b0
     try clear c6
     try clear c6b0
     try clear p6
     try clear c7
     try clear c12
     try clear c12b0
     try clear c13
     try clear c13b0
     try clear c14
     try clear c14b0
     try clear c15
     try clear c15b0
     try clear c16
     try clear c20
     try clear c21
     try clear hcz17_0
     try clear hcz17_1
     try clear hcz21_0
     try clear hcz21_1
     try clear hcz23_0
     try clear hcz23_1
     try clear hcz25_0
     try clear hcz25_1
     try clear hcz8_0
     try clear hcz8_1
     try clear hfz17_0
     try clear hfz17_1
     try clear hfz21_0
     try clear hfz21_1
     try clear hfz23_0
     try clear hfz23_1
     try clear hfz25_0
     try clear hfz25_1
     try clear hfz8_0
     try clear hfz8_1
     try clear qa
     try clear qo
     try clear qp
     try clear qj
     try clear qn
     try clear qe
     try clear ql
     try clear qd
     try clear qr
     try clear qm
     try clear qi
     try clear qc
     try clear p2
     try clear p3
     try clear p319
     try clear p326
     try clear p327
     try clear p328
     try clear q3
     try clear q319
     try clear q326
     try clear q327
     try clear q328
     obtain ⟨x3_2, x7_2, rfl, HA, HK2, HO_3, qu, HB⟩ := hrel
     cases gk with
     | zero => exact absurd HA.out (by simp [spec_l9Names.l2])
     | succ k2 =>
      have H := HA.out
      clear HA
      simp only [spec_l9Names.l2] at H
      by_cases c26 : x7_2 < (l0_1.length : Int)
      ·rw [if_pos c26] at H
       have c26b0 : decide (x7_2 < (l0_1.length : Int)) = true := decide_eq_true c26
       clear c26
       by_cases c27 : 0 ≤ x7_2
       ·rw [if_pos c27] at H
        have c27b0 : decide (0 ≤ x7_2) = true := decide_eq_true c27
        clear c27
        by_cases c28 : x3_2.length < 8796093022208
        ·rw [if_pos c28] at H
         have LMc28 := Aside0.mk c28
         clear c28
         obtain ⟨y334, hy334⟩ : ∃ y_ : List ByteArray, y_ = (x3_2 ++ [(rd_T65 l0_1 x7_2).f0]) := ⟨_, rfl⟩
         replace H : ((spec_l9Twice.f k2 ((rd_T65 l0_1 x7_2).f1)).bind fun t338 => (if t338 = true then (some true) else (spec_l9Names.l2 k2 y334 (wrap64 (x7_2 + 1)) l0_0 l0_1))) = some r := by first | (rw [hy334]; with_reducible exact H) | (have H2_ := (Option.bind_some _ _).symm.trans H; rw [hy334]; with_reducible exact H2_) | (have H2_ := (Option.bind_some _ _).symm.trans H; with_reducible exact H2_) | with_reducible exact H | (rw [hy334]; exact H) | exact H
         have Ny334 := Aside0.mk hy334
         clear hy334
         replace H := Option.bind_eq_some_iff.mp H
         obtain ⟨t338, A290, H⟩ := H
         replace H : (if t338 = true then (some true) else (spec_l9Names.l2 k2 y334 (wrap64 (x7_2 + 1)) l0_0 l0_1)) = some r := H
         have A29 := Aside0.mk A290
         clear A290
         by_cases c30 : t338 = true
         ·subst c30
          have H1 : (some true) = some r := by rw [if_pos rfl] at H; exact H
          clear H
          have H := H1
          clear H1
          obtain rfl := Option.some.inj H
          have hcz31_0 : wr.cell? ⟨gb315, 0, none⟩ = some (.slice A0_0 l0_0.length c0_0) := (blk_cell qu.out 0).trans rfl
          have hcz31_1 : wr.cell? ⟨gb315, 1, none⟩ = some (.slice A0_1 l0_1.length c0_1) := (blk_cell qu.out 1).trans rfl
          have hfz31_0 := blk_frozen qu.out 0
          have hfz31_1 := blk_frozen qu.out 1
          have p333 : 0 ≤ (x7_2 : Int) := of_decide_eq_true (by first | (with_reducible assumption) | assumption)
          have q333 : x7_2 < (l0_1.length : Int) := of_decide_eq_true (by first | (with_reducible assumption) | assumption)
          obtain ⟨ad333, A333_1, c333_1, e333, qq, qb, hl333_1, hi333_1⟩ := at_T65 HR0_1.out x7_2 p333 q333
          cases e333
          replace qq := (HB.out.cell (World.block_lt_of_cell? w _ qq)).trans qq
          replace qb := (HB.out.cell (World.block_lt_of_cell? w _ qb)).trans qb
          have HR333_1 := Aside0.mk hi333_1
          have HC333_1 := Aside0.mk hl333_1
          clear hi333_1 hl333_1
          replace p333 := eq_true p333
          replace q333 := eq_true q333
          go_wp2_with (first | ((with_reducible refine gate_builtin (b := .append) (xs := #[.tmp 59, .tmp 66]) rfl ?_); at_builtin; refine Kd.R_append Kd.string (w0 := w) w.heap.size rfl (.tmp 59) (.tmp 66) 42 9 (.string ⟨#[]⟩) 16 rfl Tryd.underlying42 info9 rfl (by decide) (by omega) u3 x3_2 ((rd_T65 l0_1 x7_2).f0) [.string ((rd_T65 l0_1 x7_2).f0)] (fun _ => True) (fun _ => False) rfl rfl ?aP (fun _ hk => hk.elim) ?aF ?aO ?aB ?aS ?aL ?_; (case aP => exact rfl); (case aB => exact (by repeat (first | (with_reducible first | exact HB.out | apply below_alloc | apply pw_below_drewN | apply below_drew1 | refine below_set ?_ qs.out) | exact HB.out))); (case aF => exact (fun _ _ => trivial)); (case aO => exact (by (with_reducible repeat (first | apply Kd.R_alloc | apply Kd.R_drewN | apply Kd.R_drew)); exact HO_3.out)); (case aS => exact (below_size (by repeat (first | (with_reducible first | exact HB.out | apply below_alloc | apply pw_below_drewN | apply below_drew1 | refine below_set ?_ qs.out) | exact HB.out)))); (case aL => have := LMc28.out; omega); intro v335 w32 ho hb hg hat; rw [← Ny334.out] at ho; have n0_ := Aside0.mk (blk_grown (g := gb315) (o := .cells #[.slice A0_0 l0_0.length c0_0, .slice (some ad333) l0_1.length c0_1] 26 (0, 0)) (by (with_reducible repeat (first | refine blk_drewN ?_ _ | refine blk_drew ?_ | refine blk_alloc ?_ _)); exact qu.out) hg (Kd.R_ne HO_3.out qu.out (by decide))); have n1_ := Aside0.mk (hb); have n2_ := Aside0.mk (ho); clear qu; clear HB; clear HO_3; have qu := n0_; have HB := n1_; have HO336 := n2_; clear n0_ n1_ n2_; clear ho hb hg hat; have hcz33_0 : w32.cell? ⟨gb315, 0, none⟩ = some (.slice A0_0 l0_0.length c0_0) := (blk_cell qu.out 0).trans rfl; have hcz33_1 : w32.cell? ⟨gb315, 1, none⟩ = some (.slice (some ad333) l0_1.length c0_1) := (blk_cell qu.out 1).trans rfl; have hfz33_0 := blk_frozen qu.out 0; have hfz33_1 := blk_frozen qu.out 1; have p337 : 0 ≤ (x7_2 : Int) := of_decide_eq_true (by first | (with_reducible assumption) | assumption); have q337 : x7_2 < (l0_1.length : Int) := of_decide_eq_true (by first | (with_reducible assumption) | assumption); obtain ⟨ad337, A337_1, c337_1, e337, qg, qk, hl337_1, hi337_1⟩ := at_T65 HR0_1.out x7_2 p337 q337; obtain rfl : ad333 = ad337 := (by injection e337); replace qg := (HB.out.cell (World.block_lt_of_cell? w _ qg)).trans qg; replace qk := (HB.out.cell (World.block_lt_of_cell? w _ qk)).trans qk; have HR337_1 := Aside0.mk hi337_1; have HC337_1 := Aside0.mk hl337_1; clear hi337_1 hl337_1; replace p337 := eq_true p337; replace q337 := eq_true q337) | ((with_reducible refine gate_callee (f := 46) rfl ?_); refine goesL_ (some 74) rfl rfl Tryd.func46 (by kernel_rfl) rfl #[.slice A337_1 ((rd_T65 l0_1 x7_2).f1).length c337_1] rfl (by (try simp only [List.map_toArray, List.map_cons, List.map_nil]); first | done | rfl | (simp only [List.length_drop, List.length_take]; rfl)) ?_; (with_reducible refine (spec_l9Twice.calls k2 _ _ ((rd_T65 l0_1 x7_2).f1) true _ ?side1 ?side2 A29.out).mono ?_); (case side1 => repeat (first | exact (Kd.C_below HR337_1.out HB.out) | (with_reducible refine Kd.C_alloc ?_ _) | (with_reducible refine Kd.C_drewN ?_ _) | (with_reducible refine Kd.C_drew ?_))); (case side2 => exact HC337_1.out); rintro e w' ⟨rfl, ⟨nd, rfl⟩⟩; refine ⟨_, rfl, ?_⟩))
          go_ret
          exact ⟨by first | rfl | (simp [errW_none, errW_some] <;> rfl) | (simp [*, errW_none, errW_some] <;> rfl) | (simp only [Bool.and_eq_true, beq_iff_eq, Bool.not_eq_true', Bool.not_eq_eq_eq_not, Bool.not_true, Bool.not_false] at *; simp [*]), by repeat (first | (with_reducible first | exact HB.out | apply below_alloc | apply pw_below_drewN | apply below_drew1 | refine below_set ?_ qs.out) | exact HB.out)⟩
         ·replace c30 := Bool.eq_false_iff.mpr c30
          subst c30
          have H1 : (spec_l9Names.l2 k2 y334 (wrap64 (x7_2 + 1)) l0_0 l0_1) = some r := by rw [if_neg (show ¬ (false = true) by decide)] at H; exact H
          clear H
          have H := H1
          clear H1
          have H' := Aside0.mk H
          clear H
          have hcz34_0 : wr.cell? ⟨gb315, 0, none⟩ = some (.slice A0_0 l0_0.length c0_0) := (blk_cell qu.out 0).trans rfl
          have hcz34_1 : wr.cell? ⟨gb315, 1, none⟩ = some (.slice A0_1 l0_1.length c0_1) := (blk_cell qu.out 1).trans rfl
          have hfz34_0 := blk_frozen qu.out 0
          have hfz34_1 := blk_frozen qu.out 1
          have p333 : 0 ≤ (x7_2 : Int) := of_decide_eq_true (by first | (with_reducible assumption) | assumption)
          have q333 : x7_2 < (l0_1.length : Int) := of_decide_eq_true (by first | (with_reducible assumption) | assumption)
          obtain ⟨ad333, A333_1, c333_1, e333, qq, qb, hl333_1, hi333_1⟩ := at_T65 HR0_1.out x7_2 p333 q333
          cases e333
          replace qq := (HB.out.cell (World.block_lt_of_cell? w _ qq)).trans qq
          replace qb := (HB.out.cell (World.block_lt_of_cell? w _ qb)).trans qb
          have HR333_1 := Aside0.mk hi333_1
          have HC333_1 := Aside0.mk hl333_1
          clear hi333_1 hl333_1
          replace p333 := eq_true p333
          replace q333 := eq_true q333
          go_wp2_with (first | ((with_reducible refine gate_builtin (b := .append) (xs := #[.tmp 59, .tmp 66]) rfl ?_); at_builtin; refine Kd.R_append Kd.string (w0 := w) w.heap.size rfl (.tmp 59) (.tmp 66) 42 9 (.string ⟨#[]⟩) 16 rfl Tryd.underlying42 info9 rfl (by decide) (by omega) u3 x3_2 ((rd_T65 l0_1 x7_2).f0) [.string ((rd_T65 l0_1 x7_2).f0)] (fun _ => True) (fun _ => False) rfl rfl ?aP (fun _ hk => hk.elim) ?aF ?aO ?aB ?aS ?aL ?_; (case aP => exact rfl); (case aB => exact (by repeat (first | (with_reducible first | exact HB.out | apply below_alloc | apply pw_below_drewN | apply below_drew1 | refine below_set ?_ qs.out) | exact HB.out))); (case aF => exact (fun _ _ => trivial)); (case aO => exact (by (with_reducible repeat (first | apply Kd.R_alloc | apply Kd.R_drewN | apply Kd.R_drew)); exact HO_3.out)); (case aS => exact (below_size (by repeat (first | (with_reducible first | exact HB.out | apply below_alloc | apply pw_below_drewN | apply below_drew1 | refine below_set ?_ qs.out) | exact HB.out)))); (case aL => have := LMc28.out; omega); intro v335 w35 ho hb hg hat; rw [← Ny334.out] at ho; have n0_ := Aside0.mk (blk_grown (g := gb315) (o := .cells #[.slice A0_0 l0_0.length c0_0, .slice (some ad333) l0_1.length c0_1] 26 (0, 0)) (by (with_reducible repeat (first | refine blk_drewN ?_ _ | refine blk_drew ?_ | refine blk_alloc ?_ _)); exact qu.out) hg (Kd.R_ne HO_3.out qu.out (by decide))); have n1_ := Aside0.mk (hb); have n2_ := Aside0.mk (ho); clear qu; clear HB; clear HO_3; have qu := n0_; have HB := n1_; have HO336 := n2_; clear n0_ n1_ n2_; clear ho hb hg hat; have hcz36_0 : w35.cell? ⟨gb315, 0, none⟩ = some (.slice A0_0 l0_0.length c0_0) := (blk_cell qu.out 0).trans rfl; have hcz36_1 : w35.cell? ⟨gb315, 1, none⟩ = some (.slice (some ad333) l0_1.length c0_1) := (blk_cell qu.out 1).trans rfl; have hfz36_0 := blk_frozen qu.out 0; have hfz36_1 := blk_frozen qu.out 1; have p337 : 0 ≤ (x7_2 : Int) := of_decide_eq_true (by first | (with_reducible assumption) | assumption); have q337 : x7_2 < (l0_1.length : Int) := of_decide_eq_true (by first | (with_reducible assumption) | assumption); obtain ⟨ad337, A337_1, c337_1, e337, qg, qk, hl337_1, hi337_1⟩ := at_T65 HR0_1.out x7_2 p337 q337; obtain rfl : ad333 = ad337 := (by injection e337); replace qg := (HB.out.cell (World.block_lt_of_cell? w _ qg)).trans qg; replace qk := (HB.out.cell (World.block_lt_of_cell? w _ qk)).trans qk; have HR337_1 := Aside0.mk hi337_1; have HC337_1 := Aside0.mk hl337_1; clear hi337_1 hl337_1; replace p337 := eq_true p337; replace q337 := eq_true q337) | ((with_reducible refine gate_callee (f := 46) rfl ?_); refine goesL_ (some 74) rfl rfl Tryd.func46 (by kernel_rfl) rfl #[.slice A337_1 ((rd_T65 l0_1 x7_2).f1).length c337_1] rfl (by (try simp only [List.map_toArray, List.map_cons, List.map_nil]); first | done | rfl | (simp only [List.length_drop, List.length_take]; rfl)) ?_; (with_reducible refine (spec_l9Twice.calls k2 _ _ ((rd_T65 l0_1 x7_2).f1) false _ ?side1 ?side2 A29.out).mono ?_); (case side1 => repeat (first | exact (Kd.C_below HR337_1.out HB.out) | (with_reducible refine Kd.C_alloc ?_ _) | (with_reducible refine Kd.C_drewN ?_ _) | (with_reducible refine Kd.C_drew ?_))); (case side2 => exact HC337_1.out); rintro e w' ⟨rfl, ⟨nd, rfl⟩⟩; refine ⟨_, rfl, ?_⟩))
          go_roundg k2
          case measure => have := HK1.out; have := HK2.out; omega
          case rel => exact ⟨(y334), (wrap64 (x7_2 + 1)), (by first | rfl | (simp; done) | (simp [*]; done)), H', ⟨by have := HK1.out; have := HK2.out; omega⟩, ⟨by (with_reducible repeat (first | apply Kd.R_alloc | apply Kd.R_drewN | apply Kd.R_drew)); exact HO336.out⟩, ⟨by (with_reducible repeat (first | refine blk_drewN ?_ _ | refine blk_drew ?_ | refine blk_alloc ?_ _)); exact qu.out⟩, ⟨by repeat (first | (with_reducible first | exact HB.out | apply below_alloc | apply pw_below_drewN | apply below_drew1 | refine below_set ?_ qs.out) | exact HB.out)⟩⟩
        ·rw [if_neg c28] at H
         exact absurd H (by simp)
       ·rw [if_neg c27] at H
        exact absurd H (by simp)
      ·rw [if_neg c26] at H
       have c26b0 : decide (x7_2 < (l0_1.length : Int)) = false := decide_eq_false c26
       clear c26
       replace H := Option.bind_eq_some_iff.mp H
       obtain ⟨t339, A370, H⟩ := H
       replace H : (some t339) = some r := H
       have A37 := Aside0.mk A370
       clear A370
       obtain rfl := Option.some.inj H
       have hcz38_0 : wr.cell? ⟨gb315, 0, none⟩ = some (.slice A0_0 l0_0.length c0_0) := (blk_cell qu.out 0).trans rfl
       have hcz38_1 : wr.cell? ⟨gb315, 1, none⟩ = some (.slice A0_1 l0_1.length c0_1) := (blk_cell qu.out 1).trans rfl
       have hfz38_0 := blk_frozen qu.out 0
       have hfz38_1 := blk_frozen qu.out 1
       obtain ⟨Ao39, co39, eo39⟩ := Kd.R_slice HO_3.out
       subst eo39
       go_wp2_with (first | ((with_reducible refine gate_callee (f := 46) rfl ?_); refine goesL_ (some 76) rfl rfl Tryd.func46 (by kernel_rfl) rfl #[.slice Ao39 x3_2.length co39] rfl (by (try simp only [List.map_toArray, List.map_cons, List.map_nil]); first | done | rfl | (simp only [List.length_drop, List.length_take]; rfl)) ?_; (with_reducible refine (spec_l9Twice.calls k2 _ _ x3_2 t339 _ ?side1 ?side2 A37.out).mono ?_); (case side1 => repeat (first | exact (Kd.R_reads' HO_3.out).2.2 | (with_reducible refine Kd.C_alloc ?_ _) | (with_reducible refine Kd.C_drewN ?_ _) | (with_reducible refine Kd.C_drew ?_))); (case side2 => exact (Kd.R_reads' HO_3.out).2.1); rintro e w' ⟨rfl, ⟨nd, rfl⟩⟩; refine ⟨_, rfl, ?_⟩))
       go_ret
       exact ⟨by first | rfl | (simp [errW_none, errW_some] <;> rfl) | (simp [*, errW_none, errW_some] <;> rfl) | (simp only [Bool.and_eq_true, beq_iff_eq, Bool.not_eq_true', Bool.not_eq_eq_eq_not, Bool.not_true, Bool.not_false] at *; simp [*]), by repeat (first | (with_reducible first | exact HB.out | apply below_alloc | apply pw_below_drewN | apply below_drew1 | refine below_set ?_ qs.out) | exact HB.out)⟩

end Go.Proofs.YtjeipkfeihahdaaDoor.P
