-- PRINTED by print.py (a twelfth state) out of the translation. Not trusted: Lean checks it.
import Derived.Test.YtjiidjlmdibhdaaPx0
namespace Go.Proofs.Ytjiidjlmdibhdaa.P
open Go.RowKit Go.Proofs.YtjiidjlmdibhdaaW.PrintWords Go.Proofs.YtjiidjlmdibhdaaW.PrintLast Go.Proofs.YtjiidjlmdibhdaaW.PrintMore
attribute [local go_sem] max2_int min2_int max_two min_two max_three min_three max_four min_four   -- for this text's walks alone
set_option linter.unusedVariables false
set_option linter.unusedSimpArgs false

/-! ### spec_l8Copy: function 25 -/
mutual
def spec_l8Copy.l0 : Nat → Int → Int → ByteArray → List (S29) → Int → Int → List (S29) → Int → ByteArray → List (S29) → Int → Int → Option (Int × ByteArray × (List (S29)) × Int × Int × (List (S29)))
 | 0, _, _, _, _, _, _, _, _, _, _, _, _ => none
 | k + 1, x4, qm, qh1, qt, ql, qg1, qk, qq, qs, qy, qe1, qo => if x4 < (qt.length : Int) then (if 0 ≤ x4 then ((spec_l8Copy.f k ((rd_T29 qt x4).f0) ((rd_T29 qt x4).f1) ((rd_T29 qt x4).f2) ((rd_T29 qt x4).f3) ((rd_T29 qt x4).f4) ((rd_T29 qt x4).f5)).bind fun bt217 => (if qy.length < 1599289640401 then (spec_l8Copy.l0 k (wrap64 (x4 + 1)) qm qh1 qt ql qg1 qk qq qs (qy ++ [(⟨bt217.1, bt217.2.1, bt217.2.2.1, bt217.2.2.2.1, bt217.2.2.2.2.1, bt217.2.2.2.2.2⟩ : S29)]) qe1 qo) else (none))) else (none)) else (spec_l8Copy.l1 k 0 qm qh1 qt ql qg1 qk qq qs qy qe1 qo ([] : List (S29)))
def spec_l8Copy.l1 : Nat → Int → Int → ByteArray → List (S29) → Int → Int → List (S29) → Int → ByteArray → List (S29) → Int → Int → List (S29) → Option (Int × ByteArray × (List (S29)) × Int × Int × (List (S29)))
 | 0, _, _, _, _, _, _, _, _, _, _, _, _, _ => none
 | k + 1, x5, qm, qh1, qt, ql, qg1, qk, qq, qs, qy, qe1, qo, qp => if x5 < (qk.length : Int) then (if 0 ≤ x5 then ((spec_l8Copy.f k ((rd_T29 qk x5).f0) ((rd_T29 qk x5).f1) ((rd_T29 qk x5).f2) ((rd_T29 qk x5).f3) ((rd_T29 qk x5).f4) ((rd_T29 qk x5).f5)).bind fun bt231 => (if qp.length < 1599289640401 then (spec_l8Copy.l1 k (wrap64 (x5 + 1)) qm qh1 qt ql qg1 qk qq qs qy qe1 qo (qp ++ [(⟨bt231.1, bt231.2.1, bt231.2.2.1, bt231.2.2.2.1, bt231.2.2.2.2.1, bt231.2.2.2.2.2⟩ : S29)])) else (none))) else (none)) else (some (qq, qs, qy, qe1, qo, qp))
def spec_l8Copy.f : Nat → Int → ByteArray → List (S29) → Int → Int → List (S29) → Option (Int × ByteArray × (List (S29)) × Int × Int × (List (S29)))
 | 0, _, _, _, _, _, _ => none
 | k + 1, a0_0, a0_1, l0_2, a0_3, a0_4, l0_5 => spec_l8Copy.l0 k 0 a0_0 a0_1 l0_2 a0_3 a0_4 l0_5 a0_0 a0_1 ([] : List (S29)) a0_3 a0_4
end
theorem spec_l8Copy.mono_l : ∀ k, (∀ y0 y1 y2 y3 y4 y5, LeO (spec_l8Copy.f k y0 y1 y2 y3 y4 y5) (spec_l8Copy.f (k + 1) y0 y1 y2 y3 y4 y5)) ∧ (∀ y0 y1 y2 y3 y4 y5 y6 y7 y8 y9 y10 y11, LeO (spec_l8Copy.l0 k y0 y1 y2 y3 y4 y5 y6 y7 y8 y9 y10 y11) (spec_l8Copy.l0 (k + 1) y0 y1 y2 y3 y4 y5 y6 y7 y8 y9 y10 y11)) ∧ (∀ y0 y1 y2 y3 y4 y5 y6 y7 y8 y9 y10 y11 y12, LeO (spec_l8Copy.l1 k y0 y1 y2 y3 y4 y5 y6 y7 y8 y9 y10 y11 y12) (spec_l8Copy.l1 (k + 1) y0 y1 y2 y3 y4 y5 y6 y7 y8 y9 y10 y11 y12))
 | 0 => ⟨fun _ _ _ _ _ _ r h => by simp [spec_l8Copy.f] at h, fun _ _ _ _ _ _ _ _ _ _ _ _ r h => by simp [spec_l8Copy.l0] at h, fun _ _ _ _ _ _ _ _ _ _ _ _ _ r h => by simp [spec_l8Copy.l1] at h⟩
 | k + 1 => by
  obtain ⟨ih0, ih1, ih2⟩ := spec_l8Copy.mono_l k
  refine ⟨?_, ?_, ?_⟩
  ·intro y0 y1 y2 y3 y4 y5
   unfold spec_l8Copy.f
   repeat' first
   | (with_reducible exact ih0 _ _ _ _ _ _)
   | (with_reducible exact ih1 _ _ _ _ _ _ _ _ _ _ _ _)
   | (with_reducible exact ih2 _ _ _ _ _ _ _ _ _ _ _ _ _)
   | (with_reducible exact LeO.refl _)
   | (with_reducible exact LeO.none _)
   | (with_reducible refine LeO.ite ?_ ?_)
   | (with_reducible refine LeO.bind ?_ (fun _ => ?_))
   | exact ih0 _ _ _ _ _ _
   | exact ih1 _ _ _ _ _ _ _ _ _ _ _ _
   | exact ih2 _ _ _ _ _ _ _ _ _ _ _ _ _
   | exact LeO.none _
   | refine LeO.ite ?_ ?_
   | refine LeO.bind ?_ (fun _ => ?_)
  ·intro y0 y1 y2 y3 y4 y5 y6 y7 y8 y9 y10 y11
   unfold spec_l8Copy.l0
   repeat' first
   | (with_reducible exact ih0 _ _ _ _ _ _)
   | (with_reducible exact ih1 _ _ _ _ _ _ _ _ _ _ _ _)
   | (with_reducible exact ih2 _ _ _ _ _ _ _ _ _ _ _ _ _)
   | (with_reducible exact LeO.refl _)
   | (with_reducible exact LeO.none _)
   | (with_reducible refine LeO.ite ?_ ?_)
   | (with_reducible refine LeO.bind ?_ (fun _ => ?_))
   | exact ih0 _ _ _ _ _ _
   | exact ih1 _ _ _ _ _ _ _ _ _ _ _ _
   | exact ih2 _ _ _ _ _ _ _ _ _ _ _ _ _
   | exact LeO.none _
   | refine LeO.ite ?_ ?_
   | refine LeO.bind ?_ (fun _ => ?_)
  ·intro y0 y1 y2 y3 y4 y5 y6 y7 y8 y9 y10 y11 y12
   unfold spec_l8Copy.l1
   repeat' first
   | (with_reducible exact ih0 _ _ _ _ _ _)
   | (with_reducible exact ih1 _ _ _ _ _ _ _ _ _ _ _ _)
   | (with_reducible exact ih2 _ _ _ _ _ _ _ _ _ _ _ _ _)
   | (with_reducible exact LeO.refl _)
   | (with_reducible exact LeO.none _)
   | (with_reducible refine LeO.ite ?_ ?_)
   | (with_reducible refine LeO.bind ?_ (fun _ => ?_))
   | exact ih0 _ _ _ _ _ _
   | exact ih1 _ _ _ _ _ _ _ _ _ _ _ _
   | exact ih2 _ _ _ _ _ _ _ _ _ _ _ _ _
   | exact LeO.none _
   | refine LeO.ite ?_ ?_
   | refine LeO.bind ?_ (fun _ => ?_)
theorem spec_l8Copy.mono : ∀ a0 a1 a2 a3 a4 a5 k, LeO (spec_l8Copy.f k a0 a1 a2 a3 a4 a5) (spec_l8Copy.f (k + 1) a0 a1 a2 a3 a4 a5) := by
 intro a0 a1 a2 a3 a4 a5 k
 obtain ⟨ih0, ih1, ih2⟩ := spec_l8Copy.mono_l k
 exact ih0 a0 a1 a2 a3 a4 a5
def spec_l8Copy.T5 : Bool × List (List Nat × List Nat) := (true, [([], []), ([0], [0]), ([], []), ([2], [2]), ([], []), ([3, 4], [3, 4]), ([5], [5]), ([6], [6]), ([7], [7]), ([1, 8, 7], [1, 8]), ([0, 1, 2, 3, 4, 5, 6, 7, 8, 9], []), ([10, 9, 9, 0, 1, 2, 3, 4, 5, 6, 7, 8, 9], [9, 10])])
def spec_l8Copy.B5 : List Nat := [0, 1, 0, 4, 0, 28, 60, 124, 252, 511, 1023, 2047]
theorem spec_l8Copy.tab5 : rtab .any (opsOf Try.f25 5) = spec_l8Copy.T5 := by kernel_rfl
theorem spec_l8Copy.bits5 : waitsOk spec_l8Copy.T5.2 spec_l8Copy.B5 = true := by kernel_rfl
def spec_l8Copy.T9 : Bool × List (List Nat × List Nat) := (true, [([], []), ([0], [0]), ([], []), ([2], [2]), ([], []), ([3, 4], [3, 4]), ([5], [5]), ([6], [6]), ([7], [7]), ([1, 8, 7], [1, 8]), ([0, 1, 2, 3, 4, 5, 6, 7, 8, 9], []), ([10, 9, 9, 0, 1, 2, 3, 4, 5, 6, 7, 8, 9], [9, 10])])
def spec_l8Copy.B9 : List Nat := [0, 1, 0, 4, 0, 28, 60, 124, 252, 511, 1023, 2047]
theorem spec_l8Copy.tab9 : rtab .any (opsOf Try.f25 9) = spec_l8Copy.T9 := by kernel_rfl
theorem spec_l8Copy.bits9 : waitsOk spec_l8Copy.T9.2 spec_l8Copy.B9 = true := by kernel_rfl
open Go.Proofs.YtjiidjlmdibhdaaW.PrintWords renaming blk_drewN → ja, blk_drew → jb, blk_alloc → jc, blk_cell → jh, blk_frozen → ji, below_set → jj, blk_far → jk, blk_below → jl, blk_put → jm, below_alloc → js, pw_below_drewN → jt, below_drew1 → ju
set_option maxHeartbeats 8000000 in
set_option maxRecDepth 100000 in
theorem spec_l8Copy.calls (k : Nat) : ∀ (a0_0 : Int) (a0_1 : ByteArray) (A0_2 : Option Addr) (c0_2 : Nat) (l0_2 : List (S29)) (a0_3 : Int) (a0_4 : Int) (A0_5 : Option Addr) (c0_5 : Nat) (l0_5 : List (S29)) (r1 : Int) (r2 : ByteArray) (r3 : List (S29)) (r4 : Int) (r5 : Int) (r6 : List (S29)) (w : World) (hr0_2 : Kd.C k29 w A0_2 l0_2.length l0_2) (hc0_2 : l0_2.length ≤ c0_2) (hr0_5 : Kd.C k29 w A0_5 l0_5.length l0_5) (hc0_5 : l0_5.length ≤ c0_5) (h : spec_l8Copy.f k a0_0 a0_1 l0_2 a0_3 a0_4 l0_5 = some (r1, r2, r3, r4, r5, r6)),
  Calls Try.prog 25 #[.agg #[.int .i64 a0_0, .string a0_1, .slice A0_2 l0_2.length c0_2, .int .i64 a0_3, .int .i64 a0_4, .slice A0_5 l0_5.length c0_5]] w fun e w' => ∃ v2_ v5_ : Value, e = .returned (.agg #[.int .i64 r1, .string r2, v2_, .int .i64 r4, .int .i64 r5, v5_]) ∧ Kd.R k29 29 w' w.heap.size (fun k_ => some k_ ≠ (v5_ : Value).ownBlock) v2_ r3 ∧ Kd.R k29 29 w' w.heap.size (fun k_ => some k_ ≠ (v2_ : Value).ownBlock) v5_ r6 ∧ Below w.heap.size w w' := by
 induction k using Nat.strongRecOn with
 | _ k ih =>
 intro a0_0 a0_1 A0_2 c0_2 l0_2 a0_3 a0_4 A0_5 c0_5 l0_5 r1 r2 r3 r4 r5 r6 w hr0_2 hc0_2 hr0_5 hc0_5 h
 cases k with
 | zero => exact absurd h (by simp [spec_l8Copy.f])
 | succ k =>
 simp only [spec_l8Copy.f] at h
 have hu29 := Try.underlying29
 have HR0_2 := Aside0.mk hr0_2
 have HC0_2 := Aside0.mk hc0_2
 clear hr0_2 hc0_2
 have HR0_5 := Aside0.mk hr0_5
 have HC0_5 := Aside0.mk hc0_5
 clear hr0_5 hc0_5
 have HB := Aside0.mk (Below.refl w.heap.size w)
 have H : (spec_l8Copy.l0 k 0 a0_0 a0_1 l0_2 a0_3 a0_4 l0_5 a0_0 a0_1 ([] : List (S29)) a0_3 a0_4) = some (r1, r2, r3, r4, r5, r6) := h
 clear h
 have H' := Aside0.mk H
 clear H
 go_enter Try.func25, Try.ntmps25
 go_wp2_with (first | ((with_reducible refine gate_dst (N := 1) rfl ?_); refine box_event ?hg (N := 1) ?hd (cs := #[.int .i64 a0_0, .string a0_1, .slice A0_2 l0_2.length c0_2, .int .i64 a0_3, .int .i64 a0_4, .slice A0_5 l0_5.length c0_5]) (t := 29) ?hr ?_; (case hd => rfl); (case hg => rfl); (case hr => first | (go_simp; done) | (go_simp; rfl)); intro ga hg w2 hbox hb; have n0_ := Aside0.mk (below_step (by repeat (first | (with_reducible first | exact HB.out | apply js | apply jt | apply ju) | exact HB.out)) hb); have n1_ := Aside0.mk (hbox); have n2_ := Aside0.mk ((by rw [hg]; exact (below_size (by repeat (first | (with_reducible first | exact HB.out | apply js | apply jt | apply ju) | exact HB.out))) : w.heap.size ≤ ga)); have n3_ := Aside0.mk ((by rw [hg]; exact (below_size (by repeat (first | (with_reducible first | exact HB.out | apply js | apply jt | apply ju) | exact HB.out))) : w.heap.size ≤ ga)); clear HB; have HB := n0_; have qq1 := n1_; have qp1 := n2_; have qm1 := n3_; clear n0_ n1_ n2_ n3_; clear hb hbox hg) | ((with_reducible refine gate_dst (N := 2) rfl ?_); refine box_event ?hg (N := 2) ?hd (cs := #[.int .i64 0, .string (⟨#[]⟩ : ByteArray), .slice none 0 0, .int .i64 0, .int .i64 0, .slice none 0 0]) (t := 29) ?hr ?_; (case hd => rfl); (case hg => rfl); (case hr => first | (go_simp; done) | (go_simp; rfl)); intro gb214 hg w3 hbox hb; have n0_ := Aside0.mk (jl (g := ga) (o := .cells #[.int .i64 a0_0, .string a0_1, .slice A0_2 l0_2.length c0_2, .int .i64 a0_3, .int .i64 a0_4, .slice A0_5 l0_5.length c0_5] 29 (0, 0)) (by (with_reducible repeat (first | refine ja ?_ _ | refine jb ?_ | refine jc ?_ _)); exact qq1.out) hb); have n1_ := Aside0.mk (below_step (by repeat (first | (with_reducible first | exact HB.out | apply js | apply jt | apply ju | refine jj ?_ qm1.out) | exact HB.out)) hb); have n2_ := Aside0.mk (hbox); have n3_ := Aside0.mk ((by rw [hg]; exact (below_size (by repeat (first | (with_reducible first | exact HB.out | apply js | apply jt | apply ju | refine jj ?_ qm1.out) | exact HB.out))) : w.heap.size ≤ gb214)); have n4_ := Aside0.mk ((by rw [hg]; exact (below_size (by repeat (first | (with_reducible first | exact HB.out | apply js | apply jt | apply ju | refine jj ?_ qm1.out) | exact HB.out))) : w.heap.size ≤ gb214)); have n5_ := Aside0.mk ((by rw [hg]; exact Nat.ne_of_lt (blk_lt (g := ga) (o := .cells #[.int .i64 a0_0, .string a0_1, .slice A0_2 l0_2.length c0_2, .int .i64 a0_3, .int .i64 a0_4, .slice A0_5 l0_5.length c0_5] 29 (0, 0)) (by (with_reducible repeat (first | refine ja ?_ _ | refine jb ?_ | refine jc ?_ _)); exact qq1.out)) : ga ≠ gb214)); have n6_ := Aside0.mk ((by rw [hg]; exact Nat.ne_of_gt (blk_lt (g := ga) (o := .cells #[.int .i64 a0_0, .string a0_1, .slice A0_2 l0_2.length c0_2, .int .i64 a0_3, .int .i64 a0_4, .slice A0_5 l0_5.length c0_5] 29 (0, 0)) (by (with_reducible repeat (first | refine ja ?_ _ | refine jb ?_ | refine jc ?_ _)); exact qq1.out)) : gb214 ≠ ga)); clear qq1; clear HB; have qq1 := n0_; have HB := n1_; have qo1 := n2_; have qn1 := n3_; have qk1 := n4_; have qg := n5_; have qc := n6_; clear n0_ n1_ n2_ n3_ n4_ n5_ n6_; clear hb hbox hg; have hnb4 := qg.out; have hnc4 := qc.out; have hcz5_0 : w3.cell? ⟨ga, 0, none⟩ = some (.int .i64 a0_0) := (jh qq1.out 0).trans rfl; have hcz5_1 : w3.cell? ⟨ga, 1, none⟩ = some (.string a0_1) := (jh qq1.out 1).trans rfl; have hcz5_2 : w3.cell? ⟨ga, 2, none⟩ = some (.slice A0_2 l0_2.length c0_2) := (jh qq1.out 2).trans rfl; have hcz5_3 : w3.cell? ⟨ga, 3, none⟩ = some (.int .i64 a0_3) := (jh qq1.out 3).trans rfl; have hcz5_4 : w3.cell? ⟨ga, 4, none⟩ = some (.int .i64 a0_4) := (jh qq1.out 4).trans rfl; have hcz5_5 : w3.cell? ⟨ga, 5, none⟩ = some (.slice A0_5 l0_5.length c0_5) := (jh qq1.out 5).trans rfl; have hfz5_0 := ji qq1.out 0; have hfz5_1 := ji qq1.out 1; have hfz5_2 := ji qq1.out 2; have hfz5_3 := ji qq1.out 3; have hfz5_4 := ji qq1.out 4; have hfz5_5 := ji qq1.out 5) | ((with_reducible refine gate_dst (N := 3) rfl ?_); refine box_event ?hg (N := 3) ?hd (cs := #[.int .i64 0, .string (⟨#[]⟩ : ByteArray), .slice none 0 0, .int .i64 0, .int .i64 0, .slice none 0 0]) (t := 29) ?hr ?_; (case hd => rfl); (case hg => rfl); (case hr => first | (go_simp; done) | (go_simp; rfl)); intro gc hg w6 hbox hb; have n0_ := Aside0.mk (jl (g := ga) (o := .cells #[.int .i64 a0_0, .string a0_1, .slice A0_2 l0_2.length c0_2, .int .i64 a0_3, .int .i64 a0_4, .slice A0_5 l0_5.length c0_5] 29 (0, 0)) (by (with_reducible repeat (first | refine ja ?_ _ | refine jb ?_ | refine jc ?_ _)); exact qq1.out) hb); have n1_ := Aside0.mk (jl (g := gb214) (o := .cells #[.int .i64 0, .string (⟨#[]⟩ : ByteArray), .slice none 0 0, .int .i64 0, .int .i64 0, .slice none 0 0] 29 (0, 0)) (by (with_reducible repeat (first | refine ja ?_ _ | refine jb ?_ | refine jc ?_ _)); exact qo1.out) hb); have n2_ := Aside0.mk (below_step (by repeat (first | (with_reducible first | exact HB.out | apply js | apply jt | apply ju | refine jj ?_ qm1.out | refine jj ?_ qk1.out) | exact HB.out)) hb); have n3_ := Aside0.mk (hbox); have n4_ := Aside0.mk ((by rw [hg]; exact (below_size (by repeat (first | (with_reducible first | exact HB.out | apply js | apply jt | apply ju | refine jj ?_ qm1.out | refine jj ?_ qk1.out) | exact HB.out))) : w.heap.size ≤ gc)); have n5_ := Aside0.mk ((by rw [hg]; exact (below_size (by repeat (first | (with_reducible first | exact HB.out | apply js | apply jt | apply ju | refine jj ?_ qm1.out | refine jj ?_ qk1.out) | exact HB.out))) : w.heap.size ≤ gc)); have n6_ := Aside0.mk ((by rw [hg]; exact Nat.ne_of_lt (blk_lt (g := ga) (o := .cells #[.int .i64 a0_0, .string a0_1, .slice A0_2 l0_2.length c0_2, .int .i64 a0_3, .int .i64 a0_4, .slice A0_5 l0_5.length c0_5] 29 (0, 0)) (by (with_reducible repeat (first | refine ja ?_ _ | refine jb ?_ | refine jc ?_ _)); exact qq1.out)) : ga ≠ gc)); have n7_ := Aside0.mk ((by rw [hg]; exact Nat.ne_of_gt (blk_lt (g := ga) (o := .cells #[.int .i64 a0_0, .string a0_1, .slice A0_2 l0_2.length c0_2, .int .i64 a0_3, .int .i64 a0_4, .slice A0_5 l0_5.length c0_5] 29 (0, 0)) (by (with_reducible repeat (first | refine ja ?_ _ | refine jb ?_ | refine jc ?_ _)); exact qq1.out)) : gc ≠ ga)); have n8_ := Aside0.mk ((by rw [hg]; exact Nat.ne_of_lt (blk_lt (g := gb214) (o := .cells #[.int .i64 0, .string (⟨#[]⟩ : ByteArray), .slice none 0 0, .int .i64 0, .int .i64 0, .slice none 0 0] 29 (0, 0)) (by (with_reducible repeat (first | refine ja ?_ _ | refine jb ?_ | refine jc ?_ _)); exact qo1.out)) : gb214 ≠ gc)); have n9_ := Aside0.mk ((by rw [hg]; exact Nat.ne_of_gt (blk_lt (g := gb214) (o := .cells #[.int .i64 0, .string (⟨#[]⟩ : ByteArray), .slice none 0 0, .int .i64 0, .int .i64 0, .slice none 0 0] 29 (0, 0)) (by (with_reducible repeat (first | refine ja ?_ _ | refine jb ?_ | refine jc ?_ _)); exact qo1.out)) : gc ≠ gb214)); clear qq1; clear qo1; clear HB; have qq1 := n0_; have qo1 := n1_; have HB := n2_; have qi1 := n3_; have ql1 := n4_; have qj1 := n5_; have qh := n6_; have qa := n7_; have qi := n8_; have qf := n9_; clear n0_ n1_ n2_ n3_ n4_ n5_ n6_ n7_ n8_ n9_; clear hb hbox hg; have hnb7 := qa.out; have hnc7 := qh.out; have hnb8 := qf.out; have hnc8 := qi.out; have hcz9_0 : w6.cell? ⟨gc, 0, none⟩ = some (.int .i64 0) := (jh qi1.out 0).trans rfl; have hcz9_1 : w6.cell? ⟨gc, 1, none⟩ = some (.string (⟨#[]⟩ : ByteArray)) := (jh qi1.out 1).trans rfl; have hcz9_2 : w6.cell? ⟨gc, 2, none⟩ = some (.slice none 0 0) := (jh qi1.out 2).trans rfl; have hcz9_3 : w6.cell? ⟨gc, 3, none⟩ = some (.int .i64 0) := (jh qi1.out 3).trans rfl; have hcz9_4 : w6.cell? ⟨gc, 4, none⟩ = some (.int .i64 0) := (jh qi1.out 4).trans rfl; have hcz9_5 : w6.cell? ⟨gc, 5, none⟩ = some (.slice none 0 0) := (jh qi1.out 5).trans rfl; have hfz9_0 := ji qi1.out 0; have hfz9_1 := ji qi1.out 1; have hfz9_2 := ji qi1.out 2; have hfz9_3 := ji qi1.out 3; have hfz9_4 := ji qi1.out 4; have hfz9_5 := ji qi1.out 5))
 go_loopg [4] k (fun kq v4 w' => ∃ (x4_1 : Int) (qj : List (S29)) (u216002 : Value), v4 = .int .i64 x4_1 ∧ Aside0 (spec_l8Copy.l0 kq x4_1 a0_0 a0_1 l0_2 a0_3 a0_4 l0_5 a0_0 a0_1 qj a0_3 a0_4 = some (r1, r2, r3, r4, r5, r6)) ∧ Aside0 (kq ≤ k) ∧ Aside0 (Kd.R k29 29 w' w.heap.size (fun k_ => k_ ≠ ga ∧ k_ ≠ gb214 ∧ k_ ≠ gc) u216002 qj) ∧ Aside0 (w'.heap[ga]? = some (.cells #[.int .i64 a0_0, .string a0_1, (.slice A0_2 l0_2.length c0_2), .int .i64 a0_3, .int .i64 a0_4, (.slice A0_5 l0_5.length c0_5)] 29 (0, 0))) ∧ Aside0 (w'.heap[gb214]? = some (.cells #[.int .i64 0, .string (⟨#[]⟩ : ByteArray), (.slice none 0 0), .int .i64 0, .int .i64 0, (.slice none 0 0)] 29 (0, 0))) ∧ Aside0 (w'.heap[gc]? = some (.cells #[.int .i64 a0_0, .string a0_1, u216002, .int .i64 a0_3, .int .i64 a0_4, (.slice none 0 0)] 29 (0, 0))) ∧ Aside0 (Below w.heap.size w w'))
 case atStart => exact ⟨(0), (([] : List (S29))), (.slice none 0 0), (by first | rfl | (simp; done) | (simp [*]; done)), H', ⟨Nat.le_refl _⟩, ⟨by first | exact Kd.R_nil _ _ _ _ _ | exact Kd.N_nil _ _ _ _ _ | exact Kd.V_nil _ _ _ _ _ | exact Kd.Q_nil _ _ _ _ _ | exact Kd.S_nil _ _ _ _ _⟩, ⟨by (with_reducible repeat (first | refine ja ?_ _ | refine jb ?_ | refine jc ?_ _)); refine jk ?_ qh.out _; (with_reducible repeat (first | refine ja ?_ _ | refine jb ?_ | refine jc ?_ _)); refine jk ?_ qh.out _; (with_reducible repeat (first | refine ja ?_ _ | refine jb ?_ | refine jc ?_ _)); refine jk ?_ qh.out _; (with_reducible repeat (first | refine ja ?_ _ | refine jb ?_ | refine jc ?_ _)); refine jk ?_ qh.out _; (with_reducible repeat (first | refine ja ?_ _ | refine jb ?_ | refine jc ?_ _)); refine jk ?_ qh.out _; (with_reducible repeat (first | refine ja ?_ _ | refine jb ?_ | refine jc ?_ _)); refine jk ?_ qh.out _; (with_reducible repeat (first | refine ja ?_ _ | refine jb ?_ | refine jc ?_ _)); exact qq1.out⟩, ⟨by (with_reducible repeat (first | refine ja ?_ _ | refine jb ?_ | refine jc ?_ _)); refine jk ?_ qi.out _; (with_reducible repeat (first | refine ja ?_ _ | refine jb ?_ | refine jc ?_ _)); refine jk ?_ qi.out _; (with_reducible repeat (first | refine ja ?_ _ | refine jb ?_ | refine jc ?_ _)); refine jk ?_ qi.out _; (with_reducible repeat (first | refine ja ?_ _ | refine jb ?_ | refine jc ?_ _)); refine jk ?_ qi.out _; (with_reducible repeat (first | refine ja ?_ _ | refine jb ?_ | refine jc ?_ _)); refine jk ?_ qi.out _; (with_reducible repeat (first | refine ja ?_ _ | refine jb ?_ | refine jc ?_ _)); refine jk ?_ qi.out _; (with_reducible repeat (first | refine ja ?_ _ | refine jb ?_ | refine jc ?_ _)); exact qo1.out⟩, ⟨by (with_reducible repeat (first | refine ja ?_ _ | refine jb ?_ | refine jc ?_ _)); refine jm (cs := #[.int .i64 a0_0, .string a0_1, .slice none 0 0, .int .i64 a0_3, .int .i64 a0_4, .slice none 0 0]) ?_ 5 _ rfl; (with_reducible repeat (first | refine ja ?_ _ | refine jb ?_ | refine jc ?_ _)); refine jm (cs := #[.int .i64 a0_0, .string a0_1, .slice none 0 0, .int .i64 a0_3, .int .i64 0, .slice none 0 0]) ?_ 4 _ rfl; (with_reducible repeat (first | refine ja ?_ _ | refine jb ?_ | refine jc ?_ _)); refine jm (cs := #[.int .i64 a0_0, .string a0_1, .slice none 0 0, .int .i64 0, .int .i64 0, .slice none 0 0]) ?_ 3 _ rfl; (with_reducible repeat (first | refine ja ?_ _ | refine jb ?_ | refine jc ?_ _)); refine jm (cs := #[.int .i64 a0_0, .string a0_1, .slice none 0 0, .int .i64 0, .int .i64 0, .slice none 0 0]) ?_ 2 _ rfl; (with_reducible repeat (first | refine ja ?_ _ | refine jb ?_ | refine jc ?_ _)); refine jm (cs := #[.int .i64 a0_0, .string (⟨#[]⟩ : ByteArray), .slice none 0 0, .int .i64 0, .int .i64 0, .slice none 0 0]) ?_ 1 _ rfl; (with_reducible repeat (first | refine ja ?_ _ | refine jb ?_ | refine jc ?_ _)); refine jm (cs := #[.int .i64 0, .string (⟨#[]⟩ : ByteArray), .slice none 0 0, .int .i64 0, .int .i64 0, .slice none 0 0]) ?_ 0 _ rfl; (with_reducible repeat (first | refine ja ?_ _ | refine jb ?_ | refine jc ?_ _)); exact qi1.out⟩, ⟨by repeat (first | (with_reducible first | exact HB.out | apply js | apply jt | apply ju | refine jj ?_ qm1.out | refine jj ?_ qk1.out | refine jj ?_ qj1.out) | exact HB.out)⟩⟩
 case round =>
  clear H'
  try clear c2
  try clear p2
  try clear c4
  try clear c7
  try clear c8
  try clear hcz5_0
  try clear hcz5_1
  try clear hcz5_2
  try clear hcz5_3
  try clear hcz5_4
  try clear hcz5_5
  try clear hcz9_0
  try clear hcz9_1
  try clear hcz9_2
  try clear hcz9_3
  try clear hcz9_4
  try clear hcz9_5
  try clear hfz5_0
  try clear hfz5_1
  try clear hfz5_2
  try clear hfz5_3
  try clear hfz5_4
  try clear hfz5_5
  try clear hfz9_0
  try clear hfz9_1
  try clear hfz9_2
  try clear hfz9_3
  try clear hfz9_4
  try clear hfz9_5
  obtain ⟨x4_1, qj, u216002, rfl, HA, HK1, qe, qq1, qo1, qi1, HB⟩ := hrel
  cases gk with
  | zero => exact absurd HA.out (by simp [spec_l8Copy.l0])
  | succ k1 =>
   have H := HA.out
   clear HA
   simp only [spec_l8Copy.l0] at H
   by_cases c10 : x4_1 < (l0_2.length : Int)
   ·rw [if_pos c10] at H
    have c10b0 : decide (x4_1 < (l0_2.length : Int)) = true := decide_eq_true c10
    clear c10
    by_cases c11 : 0 ≤ x4_1
    ·rw [if_pos c11] at H
     have c11b0 : decide (0 ≤ x4_1) = true := decide_eq_true c11
     clear c11
     replace H := Option.bind_eq_some_iff.mp H
     obtain ⟨⟨t217, t218, t219, t222, t223, t224⟩, A120, H⟩ := H
     replace H : (if qj.length < 1599289640401 then (spec_l8Copy.l0 k1 (wrap64 (x4_1 + 1)) a0_0 a0_1 l0_2 a0_3 a0_4 l0_5 a0_0 a0_1 (qj ++ [(⟨t217, t218, t219, t222, t223, t224⟩ : S29)]) a0_3 a0_4) else (none)) = some (r1, r2, r3, r4, r5, r6) := H
     have A12 := Aside0.mk A120
     clear A120
     by_cases c13 : qj.length < 1599289640401
     ·rw [if_pos c13] at H
      have LMc13 := Aside0.mk c13
      clear c13
      obtain ⟨y227, hy227⟩ : ∃ y_ : List (S29), y_ = (qj ++ [(⟨t217, t218, t219, t222, t223, t224⟩ : S29)]) := ⟨_, rfl⟩
      replace H : (spec_l8Copy.l0 k1 (wrap64 (x4_1 + 1)) a0_0 a0_1 l0_2 a0_3 a0_4 l0_5 a0_0 a0_1 y227 a0_3 a0_4) = some (r1, r2, r3, r4, r5, r6) := by first | (rw [hy227]; with_reducible exact H) | (have H2_ := (Option.bind_some _ _).symm.trans H; rw [hy227]; with_reducible exact H2_) | (have H2_ := (Option.bind_some _ _).symm.trans H; with_reducible exact H2_) | with_reducible exact H | (rw [hy227]; exact H) | exact H
      have Ny227 := Aside0.mk hy227
      clear hy227
      have H' := Aside0.mk H
      clear H
      have hnb14 := qg.out
      have hnc14 := qc.out
      have hnb15 := qh.out
      have hnc15 := qa.out
      have hcz16_0 : wr.cell? ⟨ga, 0, none⟩ = some (.int .i64 a0_0) := (jh qq1.out 0).trans rfl
      have hcz16_1 : wr.cell? ⟨ga, 1, none⟩ = some (.string a0_1) := (jh qq1.out 1).trans rfl
      have hcz16_2 : wr.cell? ⟨ga, 2, none⟩ = some (.slice A0_2 l0_2.length c0_2) := (jh qq1.out 2).trans rfl
      have hcz16_3 : wr.cell? ⟨ga, 3, none⟩ = some (.int .i64 a0_3) := (jh qq1.out 3).trans rfl
      have hcz16_4 : wr.cell? ⟨ga, 4, none⟩ = some (.int .i64 a0_4) := (jh qq1.out 4).trans rfl
      have hcz16_5 : wr.cell? ⟨ga, 5, none⟩ = some (.slice A0_5 l0_5.length c0_5) := (jh qq1.out 5).trans rfl
      have hfz16_0 := ji qq1.out 0
      have hfz16_1 := ji qq1.out 1
      have hfz16_2 := ji qq1.out 2
      have hfz16_3 := ji qq1.out 3
      have hfz16_4 := ji qq1.out 4
      have hfz16_5 := ji qq1.out 5
      try go_wp2
      have n0_ := Aside0.mk (Kd.R_drew qe.out)
      have n1_ := Aside0.mk (jb qq1.out)
      have n2_ := Aside0.mk (jb qo1.out)
      have n3_ := Aside0.mk (jb qi1.out)
      have n4_ := Aside0.mk (ju HB.out)
      clear qe
      clear qq1
      clear qo1
      clear qi1
      clear HB
      have qe := n0_
      have qq1 := n1_
      have qo1 := n2_
      have qi1 := n3_
      have HB := n4_
      clear n0_ n1_ n2_ n3_ n4_
      have p216 : 0 ≤ (x4_1 : Int) := of_decide_eq_true (by first | (with_reducible assumption) | assumption)
      have q216 : x4_1 < (l0_2.length : Int) := of_decide_eq_true (by first | (with_reducible assumption) | assumption)
      obtain ⟨ad216, A216_2, c216_2, A216_5, c216_5, e216, qa1, qb1, qv, qz, qu, qr, hl216_2, hi216_2, hl216_5, hi216_5⟩ := at_T29 HR0_2.out x4_1 p216 q216
      have hw216_5 := qr
      have hw216_4 := qu
      have hw216_3 := qz
      have hw216_2 := qv
      have hw216_1 := qb1
      have hw216_0 := qa1
      cases e216
      replace qa1 := (HB.out.cell (World.block_lt_of_cell? w _ qa1)).trans qa1
      replace qb1 := (HB.out.cell (World.block_lt_of_cell? w _ qb1)).trans qb1
      replace qv := (HB.out.cell (World.block_lt_of_cell? w _ qv)).trans qv
      replace qz := (HB.out.cell (World.block_lt_of_cell? w _ qz)).trans qz
      replace qu := (HB.out.cell (World.block_lt_of_cell? w _ qu)).trans qu
      replace qr := (HB.out.cell (World.block_lt_of_cell? w _ qr)).trans qr
      have HR216_2 := Aside0.mk hi216_2
      have HC216_2 := Aside0.mk hl216_2
      clear hi216_2 hl216_2
      have HR216_5 := Aside0.mk hi216_5
      have HC216_5 := Aside0.mk hl216_5
      clear hi216_5 hl216_5
      replace p216 := eq_true p216
      replace q216 := eq_true q216
      refine start_ (n := 12) (S := fun w' => w'.cell? ⟨gc, 0, none⟩ = some (.int .i64 a0_0) ∧ w'.cell? ⟨gc, 1, none⟩ = some (.string a0_1) ∧ w'.cell? ⟨gc, 2, none⟩ = some (u216002) ∧ w'.cell? ⟨gc, 3, none⟩ = some (.int .i64 a0_3) ∧ w'.cell? ⟨gc, 4, none⟩ = some (.int .i64 a0_4) ∧ w'.cell? ⟨gc, 5, none⟩ = some (.slice none 0 0) ∧ w'.cell? ⟨ga, 0, none⟩ = some (.int .i64 a0_0) ∧ w'.cell? ⟨ga, 1, none⟩ = some (.string a0_1) ∧ w'.cell? ⟨ga, 2, none⟩ = some (.slice (some ad216) l0_2.length c0_2) ∧ w'.cell? ⟨ga, 3, none⟩ = some (.int .i64 a0_3) ∧ w'.cell? ⟨ga, 4, none⟩ = some (.int .i64 a0_4) ∧ w'.cell? ⟨ga, 5, none⟩ = some (.slice A0_5 l0_5.length c0_5) ∧ w'.cell? (ad216.add ((x4_1).toNat * 6)) = some (.int .i64 ((rd_T29 l0_2 x4_1).f0)) ∧ w'.cell? ⟨(ad216.add ((x4_1).toNat * 6)).block, (ad216.add ((x4_1).toNat * 6)).off + 1, none⟩ = some (.string ((rd_T29 l0_2 x4_1).f1)) ∧ w'.cell? ⟨(ad216.add ((x4_1).toNat * 6)).block, (ad216.add ((x4_1).toNat * 6)).off + 2, none⟩ = some (.slice A216_2 ((rd_T29 l0_2 x4_1).f2).length c216_2) ∧ w'.cell? ⟨(ad216.add ((x4_1).toNat * 6)).block, (ad216.add ((x4_1).toNat * 6)).off + 3, none⟩ = some (.int .i64 ((rd_T29 l0_2 x4_1).f3)) ∧ w'.cell? ⟨(ad216.add ((x4_1).toNat * 6)).block, (ad216.add ((x4_1).toNat * 6)).off + 4, none⟩ = some (.int .i64 ((rd_T29 l0_2 x4_1).f4)) ∧ w'.cell? ⟨(ad216.add ((x4_1).toNat * 6)).block, (ad216.add ((x4_1).toNat * 6)).off + 5, none⟩ = some (.slice A216_5 ((rd_T29 l0_2 x4_1).f5).length c216_5)) (ds := [11]) #[false, false, false, false, false, false, false, false, false, false, false, false] (by kernel_rfl) rfl rfl ⟨(jh qi1.out 0).trans rfl, (jh qi1.out 1).trans rfl, (jh qi1.out 2).trans rfl, (jh qi1.out 3).trans rfl, (jh qi1.out 4).trans rfl, (jh qi1.out 5).trans rfl, (jh qq1.out 0).trans rfl, (jh qq1.out 1).trans rfl, (jh qq1.out 2).trans rfl, (jh qq1.out 3).trans rfl, (jh qq1.out 4).trans rfl, (jh qq1.out 5).trans rfl, ((HB.out.cell (World.block_lt_of_cell? w _ hw216_0)).trans hw216_0), ((HB.out.cell (World.block_lt_of_cell? w _ hw216_1)).trans hw216_1), ((HB.out.cell (World.block_lt_of_cell? w _ hw216_2)).trans hw216_2), ((HB.out.cell (World.block_lt_of_cell? w _ hw216_3)).trans hw216_3), ((HB.out.cell (World.block_lt_of_cell? w _ hw216_4)).trans hw216_4), ((HB.out.cell (World.block_lt_of_cell? w _ hw216_5)).trans hw216_5)⟩ (fun hHeld => ?_); refine with_tabW spec_l8Copy.tab5 spec_l8Copy.bits5 (fun HT_ HW_ => ?_)
      generalize wr.drew = w17 at qe qq1 qo1 qi1 HB HR216_2 HR216_5 qa1 qb1 qv qz qu qr hHeld ⊢
      refine pure_ (i := 0) (N := some 22) (v := ?_) (a' := ?_) #[true, false, false, false, false, false, false, false, false, false, false, false] rfl rfl (any_of HT_.out (by kernel_rfl)) (fun _ _ _ h => h) (Or.inl ⟨by rfl, ?_⟩) ?_ ?_
      rotate_left
      ·intro w'
       go_simp
       with_reducible rfl
      rotate_left
      ·simp only [Act.put, List.setIfInBounds_toArray, List.set_cons_zero, List.set_cons_succ, i64_w, i32_w]
       rfl
      refine pure_ (i := 2) (N := some 24) (v := ?_) (a' := ?_) #[true, false, true, false, false, false, false, false, false, false, false, false] rfl rfl (any_of HT_.out (by kernel_rfl)) (fun _ _ _ h => h) (Or.inl ⟨by rfl, ?_⟩) ?_ ?_
      rotate_left
      ·intro w'
       go_simp
       with_reducible rfl
      rotate_left
      ·simp only [Act.put, List.setIfInBounds_toArray, List.set_cons_zero, List.set_cons_succ, i64_w, i32_w]
       rfl
      refine pure_ (i := 4) (N := some 26) (v := ?_) (a' := ?_) #[true, false, true, false, true, false, false, false, false, false, false, false] rfl rfl (any_of HT_.out (by kernel_rfl)) (fun _ _ _ h => h) (Or.inl ⟨by rfl, ?_⟩) ?_ ?_
      rotate_left
      ·intro w'
       go_simp
       with_reducible rfl
      rotate_left
      ·simp only [Act.put, List.setIfInBounds_toArray, List.set_cons_zero, List.set_cons_succ, i64_w, i32_w]
       rfl
      refine take_ (i := 1) (N := some 23) (v := ?_) (a' := ?_) #[true, true, true, false, true, false, false, false, false, false, false, false] rfl rfl (take_ofW HT_.out HW_.out (by kernel_rfl)) (fun _ _ _ h => h) (Or.inl ⟨by rfl, ?_⟩) hHeld ?_ ?_
      rotate_left
      ·rintro w' ⟨s0, s1, s2, s3, s4, s5, s6, s7, s8, s9, s10, s11, s12, s13, s14, s15, s16, s17⟩
       go_simp
       with_reducible rfl
      rotate_left
      ·simp only [Act.put, List.setIfInBounds_toArray, List.set_cons_zero, List.set_cons_succ, i64_w, i32_w]
       rfl
      refine take_ (i := 3) (N := some 25) (v := ?_) (a' := ?_) #[true, true, true, true, true, false, false, false, false, false, false, false] rfl rfl (take_ofW HT_.out HW_.out (by kernel_rfl)) (fun _ _ _ h => h) (Or.inl ⟨by rfl, ?_⟩) hHeld ?_ ?_
      rotate_left
      ·rintro w' ⟨s0, s1, s2, s3, s4, s5, s6, s7, s8, s9, s10, s11, s12, s13, s14, s15, s16, s17⟩
       go_simp
       with_reducible rfl
      rotate_left
      ·simp only [Act.put, List.setIfInBounds_toArray, List.set_cons_zero, List.set_cons_succ, i64_w, i32_w]
       rfl
      refine pure_ (i := 5) (N := some 27) (v := ?_) (a' := ?_) #[true, true, true, true, true, true, false, false, false, false, false, false] rfl rfl (any_of HT_.out (by kernel_rfl)) (fun _ _ _ h => h) (Or.inl ⟨by rfl, ?_⟩) ?_ ?_
      rotate_left
      ·intro w'
       go_simp
       with_reducible rfl
      rotate_left
      ·simp only [Act.put, List.setIfInBounds_toArray, List.set_cons_zero, List.set_cons_succ, i64_w, i32_w]
       rfl
      refine take_ (i := 6) (N := some 28) (v := ?_) (a' := ?_) #[true, true, true, true, true, true, true, false, false, false, false, false] rfl rfl (take_ofW HT_.out HW_.out (by kernel_rfl)) (fun _ _ _ h => h) (Or.inl ⟨by rfl, ?_⟩) hHeld ?_ ?_
      rotate_left
      ·rintro w' ⟨s0, s1, s2, s3, s4, s5, s6, s7, s8, s9, s10, s11, s12, s13, s14, s15, s16, s17⟩
       go_simp
       with_reducible rfl
      rotate_left
      ·simp only [Act.put, List.setIfInBounds_toArray, List.set_cons_zero, List.set_cons_succ, i64_w, i32_w]
       rfl
      refine one_ (i := 7) (N := some 29) #[true, true, true, true, true, true, true, true, false, false, false, false] rfl rfl (one_of HT_.out (by kernel_rfl)) (by decide) (fun K hK => ?_)
      refine goes_ Try.func25 (by kernel_rfl) rfl #[.agg #[.int .i64 ((rd_T29 l0_2 x4_1).f0), .string ((rd_T29 l0_2 x4_1).f1), .slice A216_2 ((rd_T29 l0_2 x4_1).f2).length c216_2, .int .i64 ((rd_T29 l0_2 x4_1).f3), .int .i64 ((rd_T29 l0_2 x4_1).f4), .slice A216_5 ((rd_T29 l0_2 x4_1).f5).length c216_5]] (by rfl) rfl rfl (by (try simp only [List.map_toArray, List.map_cons, List.map_nil]); first | done | rfl | (simp only [List.length_drop, List.length_take]; rfl)) ?_
      with_reducible refine (ih k1 (by have := HK1.out; omega) ((rd_T29 l0_2 x4_1).f0) ((rd_T29 l0_2 x4_1).f1) _ _ ((rd_T29 l0_2 x4_1).f2) ((rd_T29 l0_2 x4_1).f3) ((rd_T29 l0_2 x4_1).f4) _ _ ((rd_T29 l0_2 x4_1).f5) t217 t218 t219 t222 t223 t224 _ ?side1 ?side2 ?side3 ?side4 A12.out).mono ?_
      (case side1 => repeat (first | exact (Kd.C_below HR216_2.out HB.out) | (with_reducible refine Kd.C_alloc ?_ _) | (with_reducible refine Kd.C_drewN ?_ _) | (with_reducible refine Kd.C_drew ?_)))
      (case side2 => exact HC216_2.out)
      (case side3 => repeat (first | exact (Kd.C_below HR216_5.out HB.out) | (with_reducible refine Kd.C_alloc ?_ _) | (with_reducible refine Kd.C_drewN ?_ _) | (with_reducible refine Kd.C_drew ?_)))
      (case side4 => exact HC216_5.out)
      rintro e w18 ⟨v220, v225, rfl, ho0, ho1, hb⟩
      refine ⟨_, rfl, ?_⟩
      have n0_ := Aside0.mk (Kd.R_mono (Kd.R_told (Kd.R_told (Kd.R_old (by (with_reducible repeat (first | apply Kd.R_alloc | apply Kd.R_drewN | apply Kd.R_drew)); exact qe.out) hb) (Kd.R_base ho0)) (Kd.R_base ho1)) (fun _ h_ => h_.1))
      have n1_ := Aside0.mk (Kd.R_lower (Kd.R_newB (Kd.R_newB (Kd.R_newB (Kd.R_new' ho0 (Kd.R_lt (by (with_reducible repeat (first | apply Kd.R_alloc | apply Kd.R_drewN | apply Kd.R_drew)); exact qe.out))) (g := ga) (o := .cells #[.int .i64 a0_0, .string a0_1, .slice (some ad216) l0_2.length c0_2, .int .i64 a0_3, .int .i64 a0_4, .slice A0_5 l0_5.length c0_5] 29 (0, 0)) (by (with_reducible repeat (first | refine ja ?_ _ | refine jb ?_ | refine jc ?_ _)); exact qq1.out)) (g := gb214) (o := .cells #[.int .i64 0, .string (⟨#[]⟩ : ByteArray), .slice none 0 0, .int .i64 0, .int .i64 0, .slice none 0 0] 29 (0, 0)) (by (with_reducible repeat (first | refine ja ?_ _ | refine jb ?_ | refine jc ?_ _)); exact qo1.out)) (g := gc) (o := .cells #[.int .i64 a0_0, .string a0_1, u216002, .int .i64 a0_3, .int .i64 a0_4, .slice none 0 0] 29 (0, 0)) (by (with_reducible repeat (first | refine ja ?_ _ | refine jb ?_ | refine jc ?_ _)); exact qi1.out)) (below_size (by repeat (first | (with_reducible first | exact HB.out | apply js | apply jt | apply ju | refine jj ?_ qm1.out | refine jj ?_ qk1.out | refine jj ?_ qj1.out) | exact HB.out))))
      have n2_ := Aside0.mk (Kd.R_lower (Kd.R_newB (Kd.R_newB (Kd.R_newB (Kd.R_new' ho1 (Kd.R_lt (by (with_reducible repeat (first | apply Kd.R_alloc | apply Kd.R_drewN | apply Kd.R_drew)); exact qe.out))) (g := ga) (o := .cells #[.int .i64 a0_0, .string a0_1, .slice (some ad216) l0_2.length c0_2, .int .i64 a0_3, .int .i64 a0_4, .slice A0_5 l0_5.length c0_5] 29 (0, 0)) (by (with_reducible repeat (first | refine ja ?_ _ | refine jb ?_ | refine jc ?_ _)); exact qq1.out)) (g := gb214) (o := .cells #[.int .i64 0, .string (⟨#[]⟩ : ByteArray), .slice none 0 0, .int .i64 0, .int .i64 0, .slice none 0 0] 29 (0, 0)) (by (with_reducible repeat (first | refine ja ?_ _ | refine jb ?_ | refine jc ?_ _)); exact qo1.out)) (g := gc) (o := .cells #[.int .i64 a0_0, .string a0_1, u216002, .int .i64 a0_3, .int .i64 a0_4, .slice none 0 0] 29 (0, 0)) (by (with_reducible repeat (first | refine ja ?_ _ | refine jb ?_ | refine jc ?_ _)); exact qi1.out)) (below_size (by repeat (first | (with_reducible first | exact HB.out | apply js | apply jt | apply ju | refine jj ?_ qm1.out | refine jj ?_ qk1.out | refine jj ?_ qj1.out) | exact HB.out))))
      have n3_ := Aside0.mk (jl (g := ga) (o := .cells #[.int .i64 a0_0, .string a0_1, .slice (some ad216) l0_2.length c0_2, .int .i64 a0_3, .int .i64 a0_4, .slice A0_5 l0_5.length c0_5] 29 (0, 0)) (by (with_reducible repeat (first | refine ja ?_ _ | refine jb ?_ | refine jc ?_ _)); exact qq1.out) hb)
      have n4_ := Aside0.mk (jl (g := gb214) (o := .cells #[.int .i64 0, .string (⟨#[]⟩ : ByteArray), .slice none 0 0, .int .i64 0, .int .i64 0, .slice none 0 0] 29 (0, 0)) (by (with_reducible repeat (first | refine ja ?_ _ | refine jb ?_ | refine jc ?_ _)); exact qo1.out) hb)
      have n5_ := Aside0.mk (jl (g := gc) (o := .cells #[.int .i64 a0_0, .string a0_1, u216002, .int .i64 a0_3, .int .i64 a0_4, .slice none 0 0] 29 (0, 0)) (by (with_reducible repeat (first | refine ja ?_ _ | refine jb ?_ | refine jc ?_ _)); exact qi1.out) hb)
      have n6_ := Aside0.mk (below_step (by repeat (first | (with_reducible first | exact HB.out | apply js | apply jt | apply ju | refine jj ?_ qm1.out | refine jj ?_ qk1.out | refine jj ?_ qj1.out) | exact HB.out)) hb)
      clear qe
      clear qq1
      clear qo1
      clear qi1
      clear HB
      have qe := n0_
      have HO221 := n1_
      have HO226 := n2_
      have qq1 := n3_
      have qo1 := n4_
      have qi1 := n5_
      have HB := n6_
      clear n0_ n1_ n2_ n3_ n4_ n5_ n6_
      (try clear hb)
      (try clear hb2)
      (try clear hk)
      (try clear hi)
      (try clear ho0)
      (try clear ho1)
      obtain ⟨Ao20, co20, eo20⟩ := Kd.R_slice HO221.out
      (first | subst eo20 | (injection eo20 with f1_ f2_ f3_; have f4_ := f1_.symm; have f5_ := f3_.symm; clear f1_ f2_ f3_; subst f4_; subst f5_))
      obtain ⟨Ao21, co21, eo21⟩ := Kd.R_slice HO226.out
      (first | subst eo21 | (injection eo21 with f1_ f2_ f3_; have f4_ := f1_.symm; have f5_ := f3_.symm; clear f1_ f2_ f3_; subst f4_; subst f5_))
      refine hK.out _ _ ⟨(jh qi1.out 0).trans rfl, (jh qi1.out 1).trans rfl, (jh qi1.out 2).trans rfl, (jh qi1.out 3).trans rfl, (jh qi1.out 4).trans rfl, (jh qi1.out 5).trans rfl, (jh qq1.out 0).trans rfl, (jh qq1.out 1).trans rfl, (jh qq1.out 2).trans rfl, (jh qq1.out 3).trans rfl, (jh qq1.out 4).trans rfl, (jh qq1.out 5).trans rfl, ((HB.out.cell (World.block_lt_of_cell? w _ hw216_0)).trans hw216_0), ((HB.out.cell (World.block_lt_of_cell? w _ hw216_1)).trans hw216_1), ((HB.out.cell (World.block_lt_of_cell? w _ hw216_2)).trans hw216_2), ((HB.out.cell (World.block_lt_of_cell? w _ hw216_3)).trans hw216_3), ((HB.out.cell (World.block_lt_of_cell? w _ hw216_4)).trans hw216_4), ((HB.out.cell (World.block_lt_of_cell? w _ hw216_5)).trans hw216_5)⟩ (fun hHeld => ?_)
      clear hK K
      refine norm_ (a' := ?_) ?_ ?_
      rotate_left
      ·show Act.put _ (some 29) _ = _
       simp only [Act.put, List.setIfInBounds_toArray, List.set_cons_zero, List.set_cons_succ, i64_w, i32_w]
       rfl
      refine one_ (i := 8) (N := some 30) #[true, true, true, true, true, true, true, true, true, false, false, false] rfl rfl (one_of HT_.out (by kernel_rfl)) (by decide) (fun K hK => ?_)
      refine value_ (w1 := ?_) (v := ?_) (by rfl) rfl ?_ ?_
      rotate_left 2
      ·go_simp
       constructor
       ·rfl
       ·rfl
      refine hK.out _ _ ⟨(jh (jc qi1.out _) 0).trans rfl, (jh (jc qi1.out _) 1).trans rfl, (jh (jc qi1.out _) 2).trans rfl, (jh (jc qi1.out _) 3).trans rfl, (jh (jc qi1.out _) 4).trans rfl, (jh (jc qi1.out _) 5).trans rfl, (jh (jc qq1.out _) 0).trans rfl, (jh (jc qq1.out _) 1).trans rfl, (jh (jc qq1.out _) 2).trans rfl, (jh (jc qq1.out _) 3).trans rfl, (jh (jc qq1.out _) 4).trans rfl, (jh (jc qq1.out _) 5).trans rfl, (World.cell?_alloc_lt _ _ _ (World.block_lt_of_cell? _ _ (((HB.out.cell (World.block_lt_of_cell? w _ hw216_0)).trans hw216_0)))).trans (((HB.out.cell (World.block_lt_of_cell? w _ hw216_0)).trans hw216_0)), (World.cell?_alloc_lt _ _ _ (World.block_lt_of_cell? _ _ (((HB.out.cell (World.block_lt_of_cell? w _ hw216_1)).trans hw216_1)))).trans (((HB.out.cell (World.block_lt_of_cell? w _ hw216_1)).trans hw216_1)), (World.cell?_alloc_lt _ _ _ (World.block_lt_of_cell? _ _ (((HB.out.cell (World.block_lt_of_cell? w _ hw216_2)).trans hw216_2)))).trans (((HB.out.cell (World.block_lt_of_cell? w _ hw216_2)).trans hw216_2)), (World.cell?_alloc_lt _ _ _ (World.block_lt_of_cell? _ _ (((HB.out.cell (World.block_lt_of_cell? w _ hw216_3)).trans hw216_3)))).trans (((HB.out.cell (World.block_lt_of_cell? w _ hw216_3)).trans hw216_3)), (World.cell?_alloc_lt _ _ _ (World.block_lt_of_cell? _ _ (((HB.out.cell (World.block_lt_of_cell? w _ hw216_4)).trans hw216_4)))).trans (((HB.out.cell (World.block_lt_of_cell? w _ hw216_4)).trans hw216_4)), (World.cell?_alloc_lt _ _ _ (World.block_lt_of_cell? _ _ (((HB.out.cell (World.block_lt_of_cell? w _ hw216_5)).trans hw216_5)))).trans (((HB.out.cell (World.block_lt_of_cell? w _ hw216_5)).trans hw216_5))⟩ (fun hHeld => ?_)
      clear hK K
      refine norm_ (a' := ?_) ?_ ?_
      rotate_left
      ·show Act.put _ (some 30) _ = _
       simp only [Act.put, List.setIfInBounds_toArray, List.set_cons_zero, List.set_cons_succ, i64_w, i32_w]
       rfl
      refine one_ (i := 9) (N := some 31) #[true, true, true, true, true, true, true, true, true, true, false, false] rfl rfl (one_of HT_.out (by kernel_rfl)) (by decide) (fun K hK => ?_)
      refine Kd.R_append_step k29 (w0 := w) w.heap.size (by rfl) (.tmp 23) (.tmp 30) 27 29 (.agg #[(.int .i64 0), (.string ⟨#[]⟩), (.slice none 0 0), (.int .i64 0), (.int .i64 0), (.slice none 0 0)]) 88 rfl Try.underlying27 info29 rfl (by decide) (by omega) u216002 qj (⟨t217, t218, t219, t222, t223, t224⟩ : S29) [.int .i64 t217, .string t218, .slice Ao20 t219.length co20, .int .i64 t222, .int .i64 t223, .slice Ao21 t224.length co21] (fun k_ => k_ ≠ ga ∧ k_ ≠ gb214 ∧ k_ ≠ gc) (fun k_ => ((fun k_ => k_ ≠ ga ∧ k_ ≠ gb214 ∧ k_ ≠ gc)) k_ ∧ some k_ ≠ (u216002 : Value).ownBlock) rfl rfl ?aP (fun _ hk => hk) ?aF ?aO ?aB ?aS ?aL ?_
      (case aP => exact k29_mkM _ _ _ (⟨t217, t218, t219, t222, t223, t224⟩ : S29) (Kd.R_mono (HO221.out) (fun k_ hk => ⟨⟨hk.1.1.2, ⟨hk.1.2, hk.2⟩⟩, hk.1.1.1.2⟩)) (Kd.R_mono (HO226.out) (fun k_ hk => ⟨⟨hk.1.1.2, ⟨hk.1.2, hk.2⟩⟩, hk.1.1.1.2⟩)))
      (case aB => exact (by repeat (first | (with_reducible first | exact HB.out | apply js | apply jt | apply ju | refine jj ?_ qm1.out | refine jj ?_ qk1.out | refine jj ?_ qj1.out) | exact HB.out)))
      (case aF => exact (fun k_ hk => ⟨Kd.freshB (g := ga) (o := .cells #[.int .i64 a0_0, .string a0_1, .slice (some ad216) l0_2.length c0_2, .int .i64 a0_3, .int .i64 a0_4, .slice A0_5 l0_5.length c0_5] 29 (0, 0)) (by (with_reducible repeat (first | refine ja ?_ _ | refine jb ?_ | refine jc ?_ _)); exact qq1.out) k_ hk, Kd.freshB (g := gb214) (o := .cells #[.int .i64 0, .string (⟨#[]⟩ : ByteArray), .slice none 0 0, .int .i64 0, .int .i64 0, .slice none 0 0] 29 (0, 0)) (by (with_reducible repeat (first | refine ja ?_ _ | refine jb ?_ | refine jc ?_ _)); exact qo1.out) k_ hk, Kd.freshB (g := gc) (o := .cells #[.int .i64 a0_0, .string a0_1, u216002, .int .i64 a0_3, .int .i64 a0_4, .slice none 0 0] 29 (0, 0)) (by (with_reducible repeat (first | refine ja ?_ _ | refine jb ?_ | refine jc ?_ _)); exact qi1.out) k_ hk⟩))
      (case aO => exact (by (with_reducible repeat (first | apply Kd.R_alloc | apply Kd.R_drewN | apply Kd.R_drew)); exact Kd.R_mono qe.out (fun _ hk => ⟨hk.1.1.1, ⟨hk.1.1.2.1, hk.1.1.2.2⟩⟩)))
      (case aS => exact (below_size (by repeat (first | (with_reducible first | exact HB.out | apply js | apply jt | apply ju | refine jj ?_ qm1.out | refine jj ?_ qk1.out | refine jj ?_ qj1.out) | exact HB.out))))
      (case aL => have := LMc13.out; omega)
      intro v228 w19 ho hb hg hat
      rw [← Ny227.out] at ho
      have n0_ := Aside0.mk (blk_grown (g := ga) (o := .cells #[.int .i64 a0_0, .string a0_1, .slice (some ad216) l0_2.length c0_2, .int .i64 a0_3, .int .i64 a0_4, .slice A0_5 l0_5.length c0_5] 29 (0, 0)) (by (with_reducible repeat (first | refine ja ?_ _ | refine jb ?_ | refine jc ?_ _)); exact qq1.out) hg (Kd.R_away qe.out (fun _ hk => hk.1.1.1)))
      have n1_ := Aside0.mk (blk_grown (g := gb214) (o := .cells #[.int .i64 0, .string (⟨#[]⟩ : ByteArray), .slice none 0 0, .int .i64 0, .int .i64 0, .slice none 0 0] 29 (0, 0)) (by (with_reducible repeat (first | refine ja ?_ _ | refine jb ?_ | refine jc ?_ _)); exact qo1.out) hg (Kd.R_away qe.out (fun _ hk => hk.1.1.2.1)))
      have n2_ := Aside0.mk (blk_grown (g := gc) (o := .cells #[.int .i64 a0_0, .string a0_1, u216002, .int .i64 a0_3, .int .i64 a0_4, .slice none 0 0] 29 (0, 0)) (by (with_reducible repeat (first | refine ja ?_ _ | refine jb ?_ | refine jc ?_ _)); exact qi1.out) hg (Kd.R_away qe.out (fun _ hk => hk.1.1.2.2)))
      have n3_ := Aside0.mk (hb)
      have n4_ := Aside0.mk (ho)
      clear qq1
      clear qo1
      clear qi1
      clear HB
      clear qe
      clear HO221
      clear HO226
      have qq1 := n0_
      have qo1 := n1_
      have qi1 := n2_
      have HB := n3_
      have HO229 := n4_
      clear n0_ n1_ n2_ n3_ n4_
      clear ho hb hg hat
      obtain ⟨Ao22, co22, eo22⟩ := Kd.R_slice HO229.out
      (first | subst eo22 | (injection eo22 with f1_ f2_ f3_; have f4_ := f1_.symm; have f5_ := f3_.symm; clear f1_ f2_ f3_; subst f4_; subst f5_))
      refine hK.out _ _ ⟨(jh qi1.out 0).trans rfl, (jh qi1.out 1).trans rfl, (jh qi1.out 2).trans rfl, (jh qi1.out 3).trans rfl, (jh qi1.out 4).trans rfl, (jh qi1.out 5).trans rfl, (jh qq1.out 0).trans rfl, (jh qq1.out 1).trans rfl, (jh qq1.out 2).trans rfl, (jh qq1.out 3).trans rfl, (jh qq1.out 4).trans rfl, (jh qq1.out 5).trans rfl, ((HB.out.cell (World.block_lt_of_cell? w _ hw216_0)).trans hw216_0), ((HB.out.cell (World.block_lt_of_cell? w _ hw216_1)).trans hw216_1), ((HB.out.cell (World.block_lt_of_cell? w _ hw216_2)).trans hw216_2), ((HB.out.cell (World.block_lt_of_cell? w _ hw216_3)).trans hw216_3), ((HB.out.cell (World.block_lt_of_cell? w _ hw216_4)).trans hw216_4), ((HB.out.cell (World.block_lt_of_cell? w _ hw216_5)).trans hw216_5)⟩ (fun hHeld => ?_)
      clear hK K
      refine norm_ (a' := ?_) ?_ ?_
      rotate_left
      ·show Act.put _ (some 31) _ = _
       simp only [Act.put, List.setIfInBounds_toArray, List.set_cons_zero, List.set_cons_succ, i64_w, i32_w]
       rfl
      refine pure_ (i := 10) (N := some 32) (v := ?_) (a' := ?_) #[true, true, true, true, true, true, true, true, true, true, true, false] rfl rfl (any_of HT_.out (by kernel_rfl)) (fun _ _ _ h => h) (Or.inl ⟨by rfl, ?_⟩) ?_ ?_
      rotate_left
      ·intro w'
       go_simp
       with_reducible rfl
      rotate_left
      ·simp only [Act.put, List.setIfInBounds_toArray, List.set_cons_zero, List.set_cons_succ, i64_w, i32_w]
       rfl
      refine last_ (i := 11) (N := none) #[true, true, true, true, true, true, true, true, true, true, true, true] rfl rfl (one_of HT_.out (by kernel_rfl)) (by decide) (fun K hK => ?_)
      have hs23 : w19.cell? ⟨gc, 2, none⟩ = some (u216002) := (jh qi1.out 2).trans rfl
      have hfs23 := ji qi1.out 2
      have hns23_0 := qh.out
      have hns23_1 := qi.out
      have hms23_0 := qa.out
      have hms23_1 := qf.out
      refine skip_ (w1 := ?_) (by rfl) rfl ?_ ?_
      rotate_left
      ·go_simp
       rfl
      refine hK.out _ _ ?_
      clear hK K
      refine done_ (done_of HT_.out (by kernel_rfl)) ?_
      try go_wp2
      go_roundg k1
      case measure => have := HK1.out; omega
      case rel => exact ⟨(wrap64 (x4_1 + 1)), (y227), (.slice Ao22 y227.length co22), (by first | rfl | (simp; done) | (simp [*]; done)), H', ⟨by have := HK1.out; omega⟩, ⟨by (with_reducible repeat (first | apply Kd.R_alloc | apply Kd.R_drewN | apply Kd.R_drew)); exact Kd.R_mono (Kd.R_far (p := ⟨gc, 2, none⟩) (Kd.R_mono HO229.out (fun k_ hk => (⟨hk, hk.2.2⟩ : _ ∧ k_ ≠ gc))) (fun _ hk => hk.2) (.slice Ao22 y227.length co22)) (fun _ hk => ⟨hk.1.1, ⟨hk.1.2.1, hk.1.2.2⟩⟩)⟩, ⟨by (with_reducible repeat (first | refine ja ?_ _ | refine jb ?_ | refine jc ?_ _)); refine jk ?_ qh.out _; (with_reducible repeat (first | refine ja ?_ _ | refine jb ?_ | refine jc ?_ _)); exact qq1.out⟩, ⟨by (with_reducible repeat (first | refine ja ?_ _ | refine jb ?_ | refine jc ?_ _)); refine jk ?_ qi.out _; (with_reducible repeat (first | refine ja ?_ _ | refine jb ?_ | refine jc ?_ _)); exact qo1.out⟩, ⟨by (with_reducible repeat (first | refine ja ?_ _ | refine jb ?_ | refine jc ?_ _)); refine jm (cs := #[.int .i64 a0_0, .string a0_1, u216002, .int .i64 a0_3, .int .i64 a0_4, .slice none 0 0]) ?_ 2 _ rfl; (with_reducible repeat (first | refine ja ?_ _ | refine jb ?_ | refine jc ?_ _)); exact qi1.out⟩, ⟨by repeat (first | (with_reducible first | exact HB.out | apply js | apply jt | apply ju | refine jj ?_ qm1.out | refine jj ?_ qk1.out | refine jj ?_ qj1.out) | exact HB.out)⟩⟩
     ·rw [if_neg c13] at H
      exact absurd H (by simp)
    ·rw [if_neg c11] at H
     exact absurd H (by simp)
   ·rw [if_neg c10] at H
    have c10b0 : decide (x4_1 < (l0_2.length : Int)) = false := decide_eq_false c10
    clear c10
    have H' := Aside0.mk H
    clear H
    have hnb24 := qg.out
    have hnc24 := qc.out
    have hnb25 := qh.out
    have hnc25 := qa.out
    have hcz26_0 : wr.cell? ⟨ga, 0, none⟩ = some (.int .i64 a0_0) := (jh qq1.out 0).trans rfl
    have hcz26_1 : wr.cell? ⟨ga, 1, none⟩ = some (.string a0_1) := (jh qq1.out 1).trans rfl
    have hcz26_2 : wr.cell? ⟨ga, 2, none⟩ = some (.slice A0_2 l0_2.length c0_2) := (jh qq1.out 2).trans rfl
    have hcz26_3 : wr.cell? ⟨ga, 3, none⟩ = some (.int .i64 a0_3) := (jh qq1.out 3).trans rfl
    have hcz26_4 : wr.cell? ⟨ga, 4, none⟩ = some (.int .i64 a0_4) := (jh qq1.out 4).trans rfl
    have hcz26_5 : wr.cell? ⟨ga, 5, none⟩ = some (.slice A0_5 l0_5.length c0_5) := (jh qq1.out 5).trans rfl
    have hfz26_0 := ji qq1.out 0
    have hfz26_1 := ji qq1.out 1
    have hfz26_2 := ji qq1.out 2
    have hfz26_3 := ji qq1.out 3
    have hfz26_4 := ji qq1.out 4
    have hfz26_5 := ji qq1.out 5
    go_wp2
    go_loopg [5] k1 (fun kq v5 w' => ∃ (x5_2 : Int) (qd : List (S29)) (u216005 : Value), v5 = .int .i64 x5_2 ∧ Aside0 (spec_l8Copy.l1 kq x5_2 a0_0 a0_1 l0_2 a0_3 a0_4 l0_5 a0_0 a0_1 qj a0_3 a0_4 qd = some (r1, r2, r3, r4, r5, r6)) ∧ Aside0 (kq ≤ k1) ∧ Aside0 (Kd.R k29 29 w' w.heap.size (fun k_ => some k_ ≠ (u216005 : Value).ownBlock ∧ k_ ≠ ga ∧ k_ ≠ gb214 ∧ k_ ≠ gc) u216002 qj) ∧ Aside0 (Kd.R k29 29 w' w.heap.size (fun k_ => some k_ ≠ (u216002 : Value).ownBlock ∧ k_ ≠ ga ∧ k_ ≠ gb214 ∧ k_ ≠ gc) u216005 qd) ∧ Aside0 (w'.heap[ga]? = some (.cells #[.int .i64 a0_0, .string a0_1, (.slice A0_2 l0_2.length c0_2), .int .i64 a0_3, .int .i64 a0_4, (.slice A0_5 l0_5.length c0_5)] 29 (0, 0))) ∧ Aside0 (w'.heap[gb214]? = some (.cells #[.int .i64 0, .string (⟨#[]⟩ : ByteArray), (.slice none 0 0), .int .i64 0, .int .i64 0, (.slice none 0 0)] 29 (0, 0))) ∧ Aside0 (w'.heap[gc]? = some (.cells #[.int .i64 a0_0, .string a0_1, u216002, .int .i64 a0_3, .int .i64 a0_4, u216005] 29 (0, 0))) ∧ Aside0 (Below w.heap.size w w'))
    case atStart => exact ⟨(0), (([] : List (S29))), (.slice none 0 0), (by first | rfl | (simp; done) | (simp [*]; done)), H', ⟨Nat.le_refl _⟩, ⟨by (with_reducible repeat (first | apply Kd.R_alloc | apply Kd.R_drewN | apply Kd.R_drew)); exact Kd.R_mono qe.out (fun _ hk => ⟨(by simp [Value.ownBlock]), ⟨hk.1, ⟨hk.2.1, hk.2.2⟩⟩⟩)⟩, ⟨by first | exact Kd.R_nil _ _ _ _ _ | exact Kd.N_nil _ _ _ _ _ | exact Kd.V_nil _ _ _ _ _ | exact Kd.Q_nil _ _ _ _ _ | exact Kd.S_nil _ _ _ _ _⟩, ⟨by (with_reducible repeat (first | refine ja ?_ _ | refine jb ?_ | refine jc ?_ _)); exact qq1.out⟩, ⟨by (with_reducible repeat (first | refine ja ?_ _ | refine jb ?_ | refine jc ?_ _)); exact qo1.out⟩, ⟨by (with_reducible repeat (first | refine ja ?_ _ | refine jb ?_ | refine jc ?_ _)); exact qi1.out⟩, ⟨by repeat (first | (with_reducible first | exact HB.out | apply js | apply jt | apply ju | refine jj ?_ qm1.out | refine jj ?_ qk1.out | refine jj ?_ qj1.out) | exact HB.out)⟩⟩
    case round =>
     clear H'
     try clear c1
     try clear c2
     try clear p2
     try clear q2
     try clear hx2
     try clear c4
     try clear p6
     try clear c7
     try clear c8
     try clear c10
     try clear c10b0
     try clear c11
     try clear c11b0
     try clear c13
     try clear c14
     try clear c15
     try clear c21
     try clear p21
     try clear q21
     try clear hx21
     try clear c24
     try clear c25
     try clear hcz16_0
     try clear hcz16_1
     try clear hcz16_2
     try clear hcz16_3
     try clear hcz16_4
     try clear hcz16_5
     try clear hcz26_0
     try clear hcz26_1
     try clear hcz26_2
     try clear hcz26_3
     try clear hcz26_4
     try clear hcz26_5
     try clear hcz5_0
     try clear hcz5_1
     try clear hcz5_2
     try clear hcz5_3
     try clear hcz5_4
     try clear hcz5_5
     try clear hcz9_0
     try clear hcz9_1
     try clear hcz9_2
     try clear hcz9_3
     try clear hcz9_4
     try clear hcz9_5
     try clear hfz16_0
     try clear hfz16_1
     try clear hfz16_2
     try clear hfz16_3
     try clear hfz16_4
     try clear hfz16_5
     try clear hfz26_0
     try clear hfz26_1
     try clear hfz26_2
     try clear hfz26_3
     try clear hfz26_4
     try clear hfz26_5
     try clear hfz5_0
     try clear hfz5_1
     try clear hfz5_2
     try clear hfz5_3
     try clear hfz5_4
     try clear hfz5_5
     try clear hfz9_0
     try clear hfz9_1
     try clear hfz9_2
     try clear hfz9_3
     try clear hfz9_4
     try clear hfz9_5
     try clear qa1
     try clear qb1
     try clear qv
     try clear qz
     try clear qu
     try clear qr
     try clear p2
     try clear p216
     try clear q216
     obtain ⟨x5_2, qd, u216005, rfl, HA, HK2, qe, qb, qq1, qo1, qi1, HB⟩ := hrel
     cases gk with
     | zero => exact absurd HA.out (by simp [spec_l8Copy.l1])
     | succ k2 =>
      have H := HA.out
      clear HA
      simp only [spec_l8Copy.l1] at H
      by_cases c27 : x5_2 < (l0_5.length : Int)
      ·rw [if_pos c27] at H
       have c27b0 : decide (x5_2 < (l0_5.length : Int)) = true := decide_eq_true c27
       clear c27
       by_cases c28 : 0 ≤ x5_2
       ·rw [if_pos c28] at H
        have c28b0 : decide (0 ≤ x5_2) = true := decide_eq_true c28
        clear c28
        replace H := Option.bind_eq_some_iff.mp H
        obtain ⟨⟨t231, t232, t233, t236, t237, t238⟩, A290, H⟩ := H
        replace H : (if qd.length < 1599289640401 then (spec_l8Copy.l1 k2 (wrap64 (x5_2 + 1)) a0_0 a0_1 l0_2 a0_3 a0_4 l0_5 a0_0 a0_1 qj a0_3 a0_4 (qd ++ [(⟨t231, t232, t233, t236, t237, t238⟩ : S29)])) else (none)) = some (r1, r2, r3, r4, r5, r6) := H
        have A29 := Aside0.mk A290
        clear A290
        by_cases c30 : qd.length < 1599289640401
        ·rw [if_pos c30] at H
         have LMc30 := Aside0.mk c30
         clear c30
         obtain ⟨y241, hy241⟩ : ∃ y_ : List (S29), y_ = (qd ++ [(⟨t231, t232, t233, t236, t237, t238⟩ : S29)]) := ⟨_, rfl⟩
         replace H : (spec_l8Copy.l1 k2 (wrap64 (x5_2 + 1)) a0_0 a0_1 l0_2 a0_3 a0_4 l0_5 a0_0 a0_1 qj a0_3 a0_4 y241) = some (r1, r2, r3, r4, r5, r6) := by first | (rw [hy241]; with_reducible exact H) | (have H2_ := (Option.bind_some _ _).symm.trans H; rw [hy241]; with_reducible exact H2_) | (have H2_ := (Option.bind_some _ _).symm.trans H; with_reducible exact H2_) | with_reducible exact H | (rw [hy241]; exact H) | exact H
         have Ny241 := Aside0.mk hy241
         clear hy241
         have H' := Aside0.mk H
         clear H
         have hnb31 := qg.out
         have hnc31 := qc.out
         have hnb32 := qh.out
         have hnc32 := qa.out
         have hcz33_0 : wr.cell? ⟨ga, 0, none⟩ = some (.int .i64 a0_0) := (jh qq1.out 0).trans rfl
         have hcz33_1 : wr.cell? ⟨ga, 1, none⟩ = some (.string a0_1) := (jh qq1.out 1).trans rfl
         have hcz33_2 : wr.cell? ⟨ga, 2, none⟩ = some (.slice A0_2 l0_2.length c0_2) := (jh qq1.out 2).trans rfl
         have hcz33_3 : wr.cell? ⟨ga, 3, none⟩ = some (.int .i64 a0_3) := (jh qq1.out 3).trans rfl
         have hcz33_4 : wr.cell? ⟨ga, 4, none⟩ = some (.int .i64 a0_4) := (jh qq1.out 4).trans rfl
         have hcz33_5 : wr.cell? ⟨ga, 5, none⟩ = some (.slice A0_5 l0_5.length c0_5) := (jh qq1.out 5).trans rfl
         have hfz33_0 := ji qq1.out 0
         have hfz33_1 := ji qq1.out 1
         have hfz33_2 := ji qq1.out 2
         have hfz33_3 := ji qq1.out 3
         have hfz33_4 := ji qq1.out 4
         have hfz33_5 := ji qq1.out 5
         try go_wp2
         have n0_ := Aside0.mk (Kd.R_drew qe.out)
         have n1_ := Aside0.mk (Kd.R_drew qb.out)
         have n2_ := Aside0.mk (jb qq1.out)
         have n3_ := Aside0.mk (jb qo1.out)
         have n4_ := Aside0.mk (jb qi1.out)
         have n5_ := Aside0.mk (ju HB.out)
         clear qe
         clear qb
         clear qq1
         clear qo1
         clear qi1
         clear HB
         have qe := n0_
         have qb := n1_
         have qq1 := n2_
         have qo1 := n3_
         have qi1 := n4_
         have HB := n5_
         clear n0_ n1_ n2_ n3_ n4_ n5_
         have p230 : 0 ≤ (x5_2 : Int) := of_decide_eq_true (by first | (with_reducible assumption) | assumption)
         have q230 : x5_2 < (l0_5.length : Int) := of_decide_eq_true (by first | (with_reducible assumption) | assumption)
         obtain ⟨ad230, A230_2, c230_2, A230_5, c230_5, e230, qc1, qn, qw, qd1, qf1, qx, hl230_2, hi230_2, hl230_5, hi230_5⟩ := at_T29 HR0_5.out x5_2 p230 q230
         have hw230_5 := qx
         have hw230_4 := qf1
         have hw230_3 := qd1
         have hw230_2 := qw
         have hw230_1 := qn
         have hw230_0 := qc1
         cases e230
         replace qc1 := (HB.out.cell (World.block_lt_of_cell? w _ qc1)).trans qc1
         replace qn := (HB.out.cell (World.block_lt_of_cell? w _ qn)).trans qn
         replace qw := (HB.out.cell (World.block_lt_of_cell? w _ qw)).trans qw
         replace qd1 := (HB.out.cell (World.block_lt_of_cell? w _ qd1)).trans qd1
         replace qf1 := (HB.out.cell (World.block_lt_of_cell? w _ qf1)).trans qf1
         replace qx := (HB.out.cell (World.block_lt_of_cell? w _ qx)).trans qx
         have HR230_2 := Aside0.mk hi230_2
         have HC230_2 := Aside0.mk hl230_2
         clear hi230_2 hl230_2
         have HR230_5 := Aside0.mk hi230_5
         have HC230_5 := Aside0.mk hl230_5
         clear hi230_5 hl230_5
         replace p230 := eq_true p230
         replace q230 := eq_true q230
         refine start_ (n := 12) (S := fun w' => w'.cell? ⟨gc, 0, none⟩ = some (.int .i64 a0_0) ∧ w'.cell? ⟨gc, 1, none⟩ = some (.string a0_1) ∧ w'.cell? ⟨gc, 2, none⟩ = some (u216002) ∧ w'.cell? ⟨gc, 3, none⟩ = some (.int .i64 a0_3) ∧ w'.cell? ⟨gc, 4, none⟩ = some (.int .i64 a0_4) ∧ w'.cell? ⟨gc, 5, none⟩ = some (u216005) ∧ w'.cell? ⟨ga, 0, none⟩ = some (.int .i64 a0_0) ∧ w'.cell? ⟨ga, 1, none⟩ = some (.string a0_1) ∧ w'.cell? ⟨ga, 2, none⟩ = some (.slice A0_2 l0_2.length c0_2) ∧ w'.cell? ⟨ga, 3, none⟩ = some (.int .i64 a0_3) ∧ w'.cell? ⟨ga, 4, none⟩ = some (.int .i64 a0_4) ∧ w'.cell? ⟨ga, 5, none⟩ = some (.slice (some ad230) l0_5.length c0_5) ∧ w'.cell? (ad230.add ((x5_2).toNat * 6)) = some (.int .i64 ((rd_T29 l0_5 x5_2).f0)) ∧ w'.cell? ⟨(ad230.add ((x5_2).toNat * 6)).block, (ad230.add ((x5_2).toNat * 6)).off + 1, none⟩ = some (.string ((rd_T29 l0_5 x5_2).f1)) ∧ w'.cell? ⟨(ad230.add ((x5_2).toNat * 6)).block, (ad230.add ((x5_2).toNat * 6)).off + 2, none⟩ = some (.slice A230_2 ((rd_T29 l0_5 x5_2).f2).length c230_2) ∧ w'.cell? ⟨(ad230.add ((x5_2).toNat * 6)).block, (ad230.add ((x5_2).toNat * 6)).off + 3, none⟩ = some (.int .i64 ((rd_T29 l0_5 x5_2).f3)) ∧ w'.cell? ⟨(ad230.add ((x5_2).toNat * 6)).block, (ad230.add ((x5_2).toNat * 6)).off + 4, none⟩ = some (.int .i64 ((rd_T29 l0_5 x5_2).f4)) ∧ w'.cell? ⟨(ad230.add ((x5_2).toNat * 6)).block, (ad230.add ((x5_2).toNat * 6)).off + 5, none⟩ = some (.slice A230_5 ((rd_T29 l0_5 x5_2).f5).length c230_5)) (ds := [11]) #[false, false, false, false, false, false, false, false, false, false, false, false] (by kernel_rfl) rfl rfl ⟨(jh qi1.out 0).trans rfl, (jh qi1.out 1).trans rfl, (jh qi1.out 2).trans rfl, (jh qi1.out 3).trans rfl, (jh qi1.out 4).trans rfl, (jh qi1.out 5).trans rfl, (jh qq1.out 0).trans rfl, (jh qq1.out 1).trans rfl, (jh qq1.out 2).trans rfl, (jh qq1.out 3).trans rfl, (jh qq1.out 4).trans rfl, (jh qq1.out 5).trans rfl, ((HB.out.cell (World.block_lt_of_cell? w _ hw230_0)).trans hw230_0), ((HB.out.cell (World.block_lt_of_cell? w _ hw230_1)).trans hw230_1), ((HB.out.cell (World.block_lt_of_cell? w _ hw230_2)).trans hw230_2), ((HB.out.cell (World.block_lt_of_cell? w _ hw230_3)).trans hw230_3), ((HB.out.cell (World.block_lt_of_cell? w _ hw230_4)).trans hw230_4), ((HB.out.cell (World.block_lt_of_cell? w _ hw230_5)).trans hw230_5)⟩ (fun hHeld => ?_); refine with_tabW spec_l8Copy.tab9 spec_l8Copy.bits9 (fun HT_ HW_ => ?_)
         generalize wr.drew = w34 at qe qb qq1 qo1 qi1 HB HR230_2 HR230_5 qc1 qn qw qd1 qf1 qx hHeld ⊢
         refine pure_ (i := 0) (N := some 40) (v := ?_) (a' := ?_) #[true, false, false, false, false, false, false, false, false, false, false, false] rfl rfl (any_of HT_.out (by kernel_rfl)) (fun _ _ _ h => h) (Or.inl ⟨by rfl, ?_⟩) ?_ ?_
         rotate_left
         ·intro w'
          go_simp
          with_reducible rfl
         rotate_left
         ·simp only [Act.put, List.setIfInBounds_toArray, List.set_cons_zero, List.set_cons_succ, i64_w, i32_w]
          rfl
         refine pure_ (i := 2) (N := some 42) (v := ?_) (a' := ?_) #[true, false, true, false, false, false, false, false, false, false, false, false] rfl rfl (any_of HT_.out (by kernel_rfl)) (fun _ _ _ h => h) (Or.inl ⟨by rfl, ?_⟩) ?_ ?_
         rotate_left
         ·intro w'
          go_simp
          with_reducible rfl
         rotate_left
         ·simp only [Act.put, List.setIfInBounds_toArray, List.set_cons_zero, List.set_cons_succ, i64_w, i32_w]
          rfl
         refine pure_ (i := 4) (N := some 44) (v := ?_) (a' := ?_) #[true, false, true, false, true, false, false, false, false, false, false, false] rfl rfl (any_of HT_.out (by kernel_rfl)) (fun _ _ _ h => h) (Or.inl ⟨by rfl, ?_⟩) ?_ ?_
         rotate_left
         ·intro w'
          go_simp
          with_reducible rfl
         rotate_left
         ·simp only [Act.put, List.setIfInBounds_toArray, List.set_cons_zero, List.set_cons_succ, i64_w, i32_w]
          rfl
         refine take_ (i := 1) (N := some 41) (v := ?_) (a' := ?_) #[true, true, true, false, true, false, false, false, false, false, false, false] rfl rfl (take_ofW HT_.out HW_.out (by kernel_rfl)) (fun _ _ _ h => h) (Or.inl ⟨by rfl, ?_⟩) hHeld ?_ ?_
         rotate_left
         ·rintro w' ⟨s0, s1, s2, s3, s4, s5, s6, s7, s8, s9, s10, s11, s12, s13, s14, s15, s16, s17⟩
          go_simp
          with_reducible rfl
         rotate_left
         ·simp only [Act.put, List.setIfInBounds_toArray, List.set_cons_zero, List.set_cons_succ, i64_w, i32_w]
          rfl
         refine take_ (i := 3) (N := some 43) (v := ?_) (a' := ?_) #[true, true, true, true, true, false, false, false, false, false, false, false] rfl rfl (take_ofW HT_.out HW_.out (by kernel_rfl)) (fun _ _ _ h => h) (Or.inl ⟨by rfl, ?_⟩) hHeld ?_ ?_
         rotate_left
         ·rintro w' ⟨s0, s1, s2, s3, s4, s5, s6, s7, s8, s9, s10, s11, s12, s13, s14, s15, s16, s17⟩
          go_simp
          with_reducible rfl
         rotate_left
         ·simp only [Act.put, List.setIfInBounds_toArray, List.set_cons_zero, List.set_cons_succ, i64_w, i32_w]
          rfl
         refine pure_ (i := 5) (N := some 45) (v := ?_) (a' := ?_) #[true, true, true, true, true, true, false, false, false, false, false, false] rfl rfl (any_of HT_.out (by kernel_rfl)) (fun _ _ _ h => h) (Or.inl ⟨by rfl, ?_⟩) ?_ ?_
         rotate_left
         ·intro w'
          go_simp
          with_reducible rfl
         rotate_left
         ·simp only [Act.put, List.setIfInBounds_toArray, List.set_cons_zero, List.set_cons_succ, i64_w, i32_w]
          rfl
         refine take_ (i := 6) (N := some 46) (v := ?_) (a' := ?_) #[true, true, true, true, true, true, true, false, false, false, false, false] rfl rfl (take_ofW HT_.out HW_.out (by kernel_rfl)) (fun _ _ _ h => h) (Or.inl ⟨by rfl, ?_⟩) hHeld ?_ ?_
         rotate_left
         ·rintro w' ⟨s0, s1, s2, s3, s4, s5, s6, s7, s8, s9, s10, s11, s12, s13, s14, s15, s16, s17⟩
          go_simp
          with_reducible rfl
         rotate_left
         ·simp only [Act.put, List.setIfInBounds_toArray, List.set_cons_zero, List.set_cons_succ, i64_w, i32_w]
          rfl
         refine one_ (i := 7) (N := some 47) #[true, true, true, true, true, true, true, true, false, false, false, false] rfl rfl (one_of HT_.out (by kernel_rfl)) (by decide) (fun K hK => ?_)
         refine goes_ Try.func25 (by kernel_rfl) rfl #[.agg #[.int .i64 ((rd_T29 l0_5 x5_2).f0), .string ((rd_T29 l0_5 x5_2).f1), .slice A230_2 ((rd_T29 l0_5 x5_2).f2).length c230_2, .int .i64 ((rd_T29 l0_5 x5_2).f3), .int .i64 ((rd_T29 l0_5 x5_2).f4), .slice A230_5 ((rd_T29 l0_5 x5_2).f5).length c230_5]] (by rfl) rfl rfl (by (try simp only [List.map_toArray, List.map_cons, List.map_nil]); first | done | rfl | (simp only [List.length_drop, List.length_take]; rfl)) ?_
         with_reducible refine (ih k2 (by have := HK1.out; have := HK2.out; omega) ((rd_T29 l0_5 x5_2).f0) ((rd_T29 l0_5 x5_2).f1) _ _ ((rd_T29 l0_5 x5_2).f2) ((rd_T29 l0_5 x5_2).f3) ((rd_T29 l0_5 x5_2).f4) _ _ ((rd_T29 l0_5 x5_2).f5) t231 t232 t233 t236 t237 t238 _ ?side1 ?side2 ?side3 ?side4 A29.out).mono ?_
         (case side1 => repeat (first | exact (Kd.C_below HR230_2.out HB.out) | (with_reducible refine Kd.C_alloc ?_ _) | (with_reducible refine Kd.C_drewN ?_ _) | (with_reducible refine Kd.C_drew ?_)))
         (case side2 => exact HC230_2.out)
         (case side3 => repeat (first | exact (Kd.C_below HR230_5.out HB.out) | (with_reducible refine Kd.C_alloc ?_ _) | (with_reducible refine Kd.C_drewN ?_ _) | (with_reducible refine Kd.C_drew ?_)))
         (case side4 => exact HC230_5.out)
         rintro e w35 ⟨v234, v239, rfl, ho0, ho1, hb⟩
         refine ⟨_, rfl, ?_⟩
         have n0_ := Aside0.mk (Kd.R_mono (Kd.R_told (Kd.R_told (Kd.R_old (by (with_reducible repeat (first | apply Kd.R_alloc | apply Kd.R_drewN | apply Kd.R_drew)); exact qe.out) hb) (Kd.R_base ho0)) (Kd.R_base ho1)) (fun _ h_ => h_.1))
         have n1_ := Aside0.mk (Kd.R_mono (Kd.R_told (Kd.R_told (Kd.R_old (by (with_reducible repeat (first | apply Kd.R_alloc | apply Kd.R_drewN | apply Kd.R_drew)); exact qb.out) hb) (Kd.R_base ho0)) (Kd.R_base ho1)) (fun _ h_ => h_.1))
         have n2_ := Aside0.mk (Kd.R_lower (Kd.R_newB (Kd.R_newB (Kd.R_newB (Kd.R_new' (Kd.R_new' ho0 (Kd.R_lt (by (with_reducible repeat (first | apply Kd.R_alloc | apply Kd.R_drewN | apply Kd.R_drew)); exact qe.out))) (Kd.R_lt (by (with_reducible repeat (first | apply Kd.R_alloc | apply Kd.R_drewN | apply Kd.R_drew)); exact qb.out))) (g := ga) (o := .cells #[.int .i64 a0_0, .string a0_1, .slice A0_2 l0_2.length c0_2, .int .i64 a0_3, .int .i64 a0_4, .slice (some ad230) l0_5.length c0_5] 29 (0, 0)) (by (with_reducible repeat (first | refine ja ?_ _ | refine jb ?_ | refine jc ?_ _)); exact qq1.out)) (g := gb214) (o := .cells #[.int .i64 0, .string (⟨#[]⟩ : ByteArray), .slice none 0 0, .int .i64 0, .int .i64 0, .slice none 0 0] 29 (0, 0)) (by (with_reducible repeat (first | refine ja ?_ _ | refine jb ?_ | refine jc ?_ _)); exact qo1.out)) (g := gc) (o := .cells #[.int .i64 a0_0, .string a0_1, u216002, .int .i64 a0_3, .int .i64 a0_4, u216005] 29 (0, 0)) (by (with_reducible repeat (first | refine ja ?_ _ | refine jb ?_ | refine jc ?_ _)); exact qi1.out)) (below_size (by repeat (first | (with_reducible first | exact HB.out | apply js | apply jt | apply ju | refine jj ?_ qm1.out | refine jj ?_ qk1.out | refine jj ?_ qj1.out) | exact HB.out))))
         have n3_ := Aside0.mk (Kd.R_lower (Kd.R_newB (Kd.R_newB (Kd.R_newB (Kd.R_new' (Kd.R_new' ho1 (Kd.R_lt (by (with_reducible repeat (first | apply Kd.R_alloc | apply Kd.R_drewN | apply Kd.R_drew)); exact qe.out))) (Kd.R_lt (by (with_reducible repeat (first | apply Kd.R_alloc | apply Kd.R_drewN | apply Kd.R_drew)); exact qb.out))) (g := ga) (o := .cells #[.int .i64 a0_0, .string a0_1, .slice A0_2 l0_2.length c0_2, .int .i64 a0_3, .int .i64 a0_4, .slice (some ad230) l0_5.length c0_5] 29 (0, 0)) (by (with_reducible repeat (first | refine ja ?_ _ | refine jb ?_ | refine jc ?_ _)); exact qq1.out)) (g := gb214) (o := .cells #[.int .i64 0, .string (⟨#[]⟩ : ByteArray), .slice none 0 0, .int .i64 0, .int .i64 0, .slice none 0 0] 29 (0, 0)) (by (with_reducible repeat (first | refine ja ?_ _ | refine jb ?_ | refine jc ?_ _)); exact qo1.out)) (g := gc) (o := .cells #[.int .i64 a0_0, .string a0_1, u216002, .int .i64 a0_3, .int .i64 a0_4, u216005] 29 (0, 0)) (by (with_reducible repeat (first | refine ja ?_ _ | refine jb ?_ | refine jc ?_ _)); exact qi1.out)) (below_size (by repeat (first | (with_reducible first | exact HB.out | apply js | apply jt | apply ju | refine jj ?_ qm1.out | refine jj ?_ qk1.out | refine jj ?_ qj1.out) | exact HB.out))))
         have n4_ := Aside0.mk (jl (g := ga) (o := .cells #[.int .i64 a0_0, .string a0_1, .slice A0_2 l0_2.length c0_2, .int .i64 a0_3, .int .i64 a0_4, .slice (some ad230) l0_5.length c0_5] 29 (0, 0)) (by (with_reducible repeat (first | refine ja ?_ _ | refine jb ?_ | refine jc ?_ _)); exact qq1.out) hb)
         have n5_ := Aside0.mk (jl (g := gb214) (o := .cells #[.int .i64 0, .string (⟨#[]⟩ : ByteArray), .slice none 0 0, .int .i64 0, .int .i64 0, .slice none 0 0] 29 (0, 0)) (by (with_reducible repeat (first | refine ja ?_ _ | refine jb ?_ | refine jc ?_ _)); exact qo1.out) hb)
         have n6_ := Aside0.mk (jl (g := gc) (o := .cells #[.int .i64 a0_0, .string a0_1, u216002, .int .i64 a0_3, .int .i64 a0_4, u216005] 29 (0, 0)) (by (with_reducible repeat (first | refine ja ?_ _ | refine jb ?_ | refine jc ?_ _)); exact qi1.out) hb)
         have n7_ := Aside0.mk (below_step (by repeat (first | (with_reducible first | exact HB.out | apply js | apply jt | apply ju | refine jj ?_ qm1.out | refine jj ?_ qk1.out | refine jj ?_ qj1.out) | exact HB.out)) hb)
         clear qe
         clear qb
         clear qq1
         clear qo1
         clear qi1
         clear HB
         have qe := n0_
         have qb := n1_
         have HO235 := n2_
         have HO240 := n3_
         have qq1 := n4_
         have qo1 := n5_
         have qi1 := n6_
         have HB := n7_
         clear n0_ n1_ n2_ n3_ n4_ n5_ n6_ n7_
         (try clear hb)
         (try clear hb2)
         (try clear hk)
         (try clear hi)
         (try clear ho0)
         (try clear ho1)
         obtain ⟨Ao37, co37, eo37⟩ := Kd.R_slice HO235.out
         (first | subst eo37 | (injection eo37 with f1_ f2_ f3_; have f4_ := f1_.symm; have f5_ := f3_.symm; clear f1_ f2_ f3_; subst f4_; subst f5_))
         obtain ⟨Ao38, co38, eo38⟩ := Kd.R_slice HO240.out
         (first | subst eo38 | (injection eo38 with f1_ f2_ f3_; have f4_ := f1_.symm; have f5_ := f3_.symm; clear f1_ f2_ f3_; subst f4_; subst f5_))
         refine hK.out _ _ ⟨(jh qi1.out 0).trans rfl, (jh qi1.out 1).trans rfl, (jh qi1.out 2).trans rfl, (jh qi1.out 3).trans rfl, (jh qi1.out 4).trans rfl, (jh qi1.out 5).trans rfl, (jh qq1.out 0).trans rfl, (jh qq1.out 1).trans rfl, (jh qq1.out 2).trans rfl, (jh qq1.out 3).trans rfl, (jh qq1.out 4).trans rfl, (jh qq1.out 5).trans rfl, ((HB.out.cell (World.block_lt_of_cell? w _ hw230_0)).trans hw230_0), ((HB.out.cell (World.block_lt_of_cell? w _ hw230_1)).trans hw230_1), ((HB.out.cell (World.block_lt_of_cell? w _ hw230_2)).trans hw230_2), ((HB.out.cell (World.block_lt_of_cell? w _ hw230_3)).trans hw230_3), ((HB.out.cell (World.block_lt_of_cell? w _ hw230_4)).trans hw230_4), ((HB.out.cell (World.block_lt_of_cell? w _ hw230_5)).trans hw230_5)⟩ (fun hHeld => ?_)
         clear hK K
         refine norm_ (a' := ?_) ?_ ?_
         rotate_left
         ·show Act.put _ (some 47) _ = _
          simp only [Act.put, List.setIfInBounds_toArray, List.set_cons_zero, List.set_cons_succ, i64_w, i32_w]
          rfl
         refine one_ (i := 8) (N := some 48) #[true, true, true, true, true, true, true, true, true, false, false, false] rfl rfl (one_of HT_.out (by kernel_rfl)) (by decide) (fun K hK => ?_)
         refine value_ (w1 := ?_) (v := ?_) (by rfl) rfl ?_ ?_
         rotate_left 2
         ·go_simp
          constructor
          ·rfl
          ·rfl
         refine hK.out _ _ ⟨(jh (jc qi1.out _) 0).trans rfl, (jh (jc qi1.out _) 1).trans rfl, (jh (jc qi1.out _) 2).trans rfl, (jh (jc qi1.out _) 3).trans rfl, (jh (jc qi1.out _) 4).trans rfl, (jh (jc qi1.out _) 5).trans rfl, (jh (jc qq1.out _) 0).trans rfl, (jh (jc qq1.out _) 1).trans rfl, (jh (jc qq1.out _) 2).trans rfl, (jh (jc qq1.out _) 3).trans rfl, (jh (jc qq1.out _) 4).trans rfl, (jh (jc qq1.out _) 5).trans rfl, (World.cell?_alloc_lt _ _ _ (World.block_lt_of_cell? _ _ (((HB.out.cell (World.block_lt_of_cell? w _ hw230_0)).trans hw230_0)))).trans (((HB.out.cell (World.block_lt_of_cell? w _ hw230_0)).trans hw230_0)), (World.cell?_alloc_lt _ _ _ (World.block_lt_of_cell? _ _ (((HB.out.cell (World.block_lt_of_cell? w _ hw230_1)).trans hw230_1)))).trans (((HB.out.cell (World.block_lt_of_cell? w _ hw230_1)).trans hw230_1)), (World.cell?_alloc_lt _ _ _ (World.block_lt_of_cell? _ _ (((HB.out.cell (World.block_lt_of_cell? w _ hw230_2)).trans hw230_2)))).trans (((HB.out.cell (World.block_lt_of_cell? w _ hw230_2)).trans hw230_2)), (World.cell?_alloc_lt _ _ _ (World.block_lt_of_cell? _ _ (((HB.out.cell (World.block_lt_of_cell? w _ hw230_3)).trans hw230_3)))).trans (((HB.out.cell (World.block_lt_of_cell? w _ hw230_3)).trans hw230_3)), (World.cell?_alloc_lt _ _ _ (World.block_lt_of_cell? _ _ (((HB.out.cell (World.block_lt_of_cell? w _ hw230_4)).trans hw230_4)))).trans (((HB.out.cell (World.block_lt_of_cell? w _ hw230_4)).trans hw230_4)), (World.cell?_alloc_lt _ _ _ (World.block_lt_of_cell? _ _ (((HB.out.cell (World.block_lt_of_cell? w _ hw230_5)).trans hw230_5)))).trans (((HB.out.cell (World.block_lt_of_cell? w _ hw230_5)).trans hw230_5))⟩ (fun hHeld => ?_)
         clear hK K
         refine norm_ (a' := ?_) ?_ ?_
         rotate_left
         ·show Act.put _ (some 48) _ = _
          simp only [Act.put, List.setIfInBounds_toArray, List.set_cons_zero, List.set_cons_succ, i64_w, i32_w]
          rfl
         refine one_ (i := 9) (N := some 49) #[true, true, true, true, true, true, true, true, true, true, false, false] rfl rfl (one_of HT_.out (by kernel_rfl)) (by decide) (fun K hK => ?_)
         refine Kd.R_append_step k29 (w0 := w) w.heap.size (by rfl) (.tmp 41) (.tmp 48) 27 29 (.agg #[(.int .i64 0), (.string ⟨#[]⟩), (.slice none 0 0), (.int .i64 0), (.int .i64 0), (.slice none 0 0)]) 88 rfl Try.underlying27 info29 rfl (by decide) (by omega) u216005 qd (⟨t231, t232, t233, t236, t237, t238⟩ : S29) [.int .i64 t231, .string t232, .slice Ao37 t233.length co37, .int .i64 t236, .int .i64 t237, .slice Ao38 t238.length co38] (fun k_ => some k_ ≠ (u216002 : Value).ownBlock ∧ k_ ≠ ga ∧ k_ ≠ gb214 ∧ k_ ≠ gc) (fun k_ => ((fun k_ => some k_ ≠ (u216002 : Value).ownBlock ∧ k_ ≠ ga ∧ k_ ≠ gb214 ∧ k_ ≠ gc)) k_ ∧ some k_ ≠ (u216005 : Value).ownBlock) rfl rfl ?aP (fun _ hk => hk) ?aF ?aO ?aB ?aS ?aL ?_
         (case aP => exact k29_mkM _ _ _ (⟨t231, t232, t233, t236, t237, t238⟩ : S29) (Kd.R_mono (HO235.out) (fun k_ hk => ⟨⟨hk.1.1.1.1.2, ⟨hk.1.1.2, ⟨hk.1.2, hk.2⟩⟩⟩, hk.1.1.1.2⟩)) (Kd.R_mono (HO240.out) (fun k_ hk => ⟨⟨hk.1.1.1.1.2, ⟨hk.1.1.2, ⟨hk.1.2, hk.2⟩⟩⟩, hk.1.1.1.2⟩)))
         (case aB => exact (by repeat (first | (with_reducible first | exact HB.out | apply js | apply jt | apply ju | refine jj ?_ qm1.out | refine jj ?_ qk1.out | refine jj ?_ qj1.out) | exact HB.out)))
         (case aF => exact (fun k_ hk => ⟨Kd.fresh' (Kd.R_lt (by (with_reducible repeat (first | apply Kd.R_alloc | apply Kd.R_drewN | apply Kd.R_drew)); exact qe.out)) k_ hk, Kd.freshB (g := ga) (o := .cells #[.int .i64 a0_0, .string a0_1, .slice A0_2 l0_2.length c0_2, .int .i64 a0_3, .int .i64 a0_4, .slice (some ad230) l0_5.length c0_5] 29 (0, 0)) (by (with_reducible repeat (first | refine ja ?_ _ | refine jb ?_ | refine jc ?_ _)); exact qq1.out) k_ hk, Kd.freshB (g := gb214) (o := .cells #[.int .i64 0, .string (⟨#[]⟩ : ByteArray), .slice none 0 0, .int .i64 0, .int .i64 0, .slice none 0 0] 29 (0, 0)) (by (with_reducible repeat (first | refine ja ?_ _ | refine jb ?_ | refine jc ?_ _)); exact qo1.out) k_ hk, Kd.freshB (g := gc) (o := .cells #[.int .i64 a0_0, .string a0_1, u216002, .int .i64 a0_3, .int .i64 a0_4, u216005] 29 (0, 0)) (by (with_reducible repeat (first | refine ja ?_ _ | refine jb ?_ | refine jc ?_ _)); exact qi1.out) k_ hk⟩))
         (case aO => exact (by (with_reducible repeat (first | apply Kd.R_alloc | apply Kd.R_drewN | apply Kd.R_drew)); exact Kd.R_mono qb.out (fun _ hk => ⟨hk.1.1.1, ⟨hk.1.1.2.1, ⟨hk.1.1.2.2.1, hk.1.1.2.2.2⟩⟩⟩)))
         (case aS => exact (below_size (by repeat (first | (with_reducible first | exact HB.out | apply js | apply jt | apply ju | refine jj ?_ qm1.out | refine jj ?_ qk1.out | refine jj ?_ qj1.out) | exact HB.out))))
         (case aL => have := LMc30.out; omega)
         intro v242 w36 ho hb hg hat
         rw [← Ny241.out] at ho
         have n0_ := Aside0.mk (Kd.R_after (ok := (fun k_ => some k_ ≠ (.slice Ao37 t233.length co37 : Value).ownBlock ∧ some k_ ≠ (.slice Ao38 t238.length co38 : Value).ownBlock ∧ k_ ≠ ga ∧ k_ ≠ gb214 ∧ k_ ≠ gc)) (by (with_reducible repeat (first | apply Kd.R_alloc | apply Kd.R_drewN | apply Kd.R_drew)); exact Kd.R_mono qe.out (fun _ hk => ⟨⟨hk.1.2, ⟨hk.2, ⟨hk.1.1.2.1, ⟨hk.1.1.2.2.1, hk.1.1.2.2.2⟩⟩⟩⟩, hk.1.1.1⟩)) hg hat)
         have n1_ := Aside0.mk (blk_grown (g := ga) (o := .cells #[.int .i64 a0_0, .string a0_1, .slice A0_2 l0_2.length c0_2, .int .i64 a0_3, .int .i64 a0_4, .slice (some ad230) l0_5.length c0_5] 29 (0, 0)) (by (with_reducible repeat (first | refine ja ?_ _ | refine jb ?_ | refine jc ?_ _)); exact qq1.out) hg (Kd.R_away qb.out (fun _ hk => hk.1.1.2.1)))
         have n2_ := Aside0.mk (blk_grown (g := gb214) (o := .cells #[.int .i64 0, .string (⟨#[]⟩ : ByteArray), .slice none 0 0, .int .i64 0, .int .i64 0, .slice none 0 0] 29 (0, 0)) (by (with_reducible repeat (first | refine ja ?_ _ | refine jb ?_ | refine jc ?_ _)); exact qo1.out) hg (Kd.R_away qb.out (fun _ hk => hk.1.1.2.2.1)))
         have n3_ := Aside0.mk (blk_grown (g := gc) (o := .cells #[.int .i64 a0_0, .string a0_1, u216002, .int .i64 a0_3, .int .i64 a0_4, u216005] 29 (0, 0)) (by (with_reducible repeat (first | refine ja ?_ _ | refine jb ?_ | refine jc ?_ _)); exact qi1.out) hg (Kd.R_away qb.out (fun _ hk => hk.1.1.2.2.2)))
         have n4_ := Aside0.mk (hb)
         have n5_ := Aside0.mk (ho)
         clear qe
         clear qq1
         clear qo1
         clear qi1
         clear HB
         clear qb
         clear HO235
         clear HO240
         have qe := n0_
         have qq1 := n1_
         have qo1 := n2_
         have qi1 := n3_
         have HB := n4_
         have HO243 := n5_
         clear n0_ n1_ n2_ n3_ n4_ n5_
         clear ho hb hg hat
         obtain ⟨Ao39, co39, eo39⟩ := Kd.R_slice HO243.out
         (first | subst eo39 | (injection eo39 with f1_ f2_ f3_; have f4_ := f1_.symm; have f5_ := f3_.symm; clear f1_ f2_ f3_; subst f4_; subst f5_))
         refine hK.out _ _ ⟨(jh qi1.out 0).trans rfl, (jh qi1.out 1).trans rfl, (jh qi1.out 2).trans rfl, (jh qi1.out 3).trans rfl, (jh qi1.out 4).trans rfl, (jh qi1.out 5).trans rfl, (jh qq1.out 0).trans rfl, (jh qq1.out 1).trans rfl, (jh qq1.out 2).trans rfl, (jh qq1.out 3).trans rfl, (jh qq1.out 4).trans rfl, (jh qq1.out 5).trans rfl, ((HB.out.cell (World.block_lt_of_cell? w _ hw230_0)).trans hw230_0), ((HB.out.cell (World.block_lt_of_cell? w _ hw230_1)).trans hw230_1), ((HB.out.cell (World.block_lt_of_cell? w _ hw230_2)).trans hw230_2), ((HB.out.cell (World.block_lt_of_cell? w _ hw230_3)).trans hw230_3), ((HB.out.cell (World.block_lt_of_cell? w _ hw230_4)).trans hw230_4), ((HB.out.cell (World.block_lt_of_cell? w _ hw230_5)).trans hw230_5)⟩ (fun hHeld => ?_)
         clear hK K
         refine norm_ (a' := ?_) ?_ ?_
         rotate_left
         ·show Act.put _ (some 49) _ = _
          simp only [Act.put, List.setIfInBounds_toArray, List.set_cons_zero, List.set_cons_succ, i64_w, i32_w]
          rfl
         refine pure_ (i := 10) (N := some 50) (v := ?_) (a' := ?_) #[true, true, true, true, true, true, true, true, true, true, true, false] rfl rfl (any_of HT_.out (by kernel_rfl)) (fun _ _ _ h => h) (Or.inl ⟨by rfl, ?_⟩) ?_ ?_
         rotate_left
         ·intro w'
          go_simp
          with_reducible rfl
         rotate_left
         ·simp only [Act.put, List.setIfInBounds_toArray, List.set_cons_zero, List.set_cons_succ, i64_w, i32_w]
          rfl
         refine last_ (i := 11) (N := none) #[true, true, true, true, true, true, true, true, true, true, true, true] rfl rfl (one_of HT_.out (by kernel_rfl)) (by decide) (fun K hK => ?_)
         have hs40 : w36.cell? ⟨gc, 5, none⟩ = some (u216005) := (jh qi1.out 5).trans rfl
         have hfs40 := ji qi1.out 5
         have hns40_0 := qh.out
         have hns40_1 := qi.out
         have hms40_0 := qa.out
         have hms40_1 := qf.out
         refine skip_ (w1 := ?_) (by rfl) rfl ?_ ?_
         rotate_left
         ·go_simp
          rfl
         refine hK.out _ _ ?_
         clear hK K
         refine done_ (done_of HT_.out (by kernel_rfl)) ?_
         try go_wp2
         go_roundg k2
         case measure => have := HK1.out; have := HK2.out; omega
         case rel => exact ⟨(wrap64 (x5_2 + 1)), (y241), (.slice Ao39 y241.length co39), (by first | rfl | (simp; done) | (simp [*]; done)), H', ⟨by have := HK1.out; have := HK2.out; omega⟩, ⟨by (with_reducible repeat (first | apply Kd.R_alloc | apply Kd.R_drewN | apply Kd.R_drew)); exact Kd.R_mono (Kd.R_far (p := ⟨gc, 5, none⟩) (Kd.R_mono qe.out (fun k_ hk => (⟨hk, hk.1.2.2.2.2⟩ : _ ∧ k_ ≠ gc))) (fun _ hk => hk.2) (.slice Ao39 y241.length co39)) (fun _ hk => ⟨hk.1.2, ⟨hk.1.1.2.2.1, ⟨hk.1.1.2.2.2.1, hk.1.1.2.2.2.2⟩⟩⟩)⟩, ⟨by (with_reducible repeat (first | apply Kd.R_alloc | apply Kd.R_drewN | apply Kd.R_drew)); exact Kd.R_mono (Kd.R_far (p := ⟨gc, 5, none⟩) (Kd.R_mono HO243.out (fun k_ hk => (⟨hk, hk.2.2.2⟩ : _ ∧ k_ ≠ gc))) (fun _ hk => hk.2) (.slice Ao39 y241.length co39)) (fun _ hk => ⟨hk.1.1, ⟨hk.1.2.1, ⟨hk.1.2.2.1, hk.1.2.2.2⟩⟩⟩)⟩, ⟨by (with_reducible repeat (first | refine ja ?_ _ | refine jb ?_ | refine jc ?_ _)); refine jk ?_ qh.out _; (with_reducible repeat (first | refine ja ?_ _ | refine jb ?_ | refine jc ?_ _)); exact qq1.out⟩, ⟨by (with_reducible repeat (first | refine ja ?_ _ | refine jb ?_ | refine jc ?_ _)); refine jk ?_ qi.out _; (with_reducible repeat (first | refine ja ?_ _ | refine jb ?_ | refine jc ?_ _)); exact qo1.out⟩, ⟨by (with_reducible repeat (first | refine ja ?_ _ | refine jb ?_ | refine jc ?_ _)); refine jm (cs := #[.int .i64 a0_0, .string a0_1, u216002, .int .i64 a0_3, .int .i64 a0_4, u216005]) ?_ 5 _ rfl; (with_reducible repeat (first | refine ja ?_ _ | refine jb ?_ | refine jc ?_ _)); exact qi1.out⟩, ⟨by repeat (first | (with_reducible first | exact HB.out | apply js | apply jt | apply ju | refine jj ?_ qm1.out | refine jj ?_ qk1.out | refine jj ?_ qj1.out) | exact HB.out)⟩⟩
        ·rw [if_neg c30] at H
         exact absurd H (by simp)
       ·rw [if_neg c28] at H
        exact absurd H (by simp)
      ·rw [if_neg c27] at H
       have c27b0 : decide (x5_2 < (l0_5.length : Int)) = false := decide_eq_false c27
       clear c27
       simp only [Option.some.injEq, Prod.mk.injEq] at H
       obtain ⟨rfl, rfl, rfl, rfl, rfl, rfl⟩ := H
       have hnb41 := qg.out
       have hnc41 := qc.out
       have hnb42 := qh.out
       have hnc42 := qa.out
       have hcz43_0 : wr.cell? ⟨ga, 0, none⟩ = some (.int .i64 a0_0) := (jh qq1.out 0).trans rfl
       have hcz43_1 : wr.cell? ⟨ga, 1, none⟩ = some (.string a0_1) := (jh qq1.out 1).trans rfl
       have hcz43_2 : wr.cell? ⟨ga, 2, none⟩ = some (.slice A0_2 l0_2.length c0_2) := (jh qq1.out 2).trans rfl
       have hcz43_3 : wr.cell? ⟨ga, 3, none⟩ = some (.int .i64 a0_3) := (jh qq1.out 3).trans rfl
       have hcz43_4 : wr.cell? ⟨ga, 4, none⟩ = some (.int .i64 a0_4) := (jh qq1.out 4).trans rfl
       have hcz43_5 : wr.cell? ⟨ga, 5, none⟩ = some (.slice A0_5 l0_5.length c0_5) := (jh qq1.out 5).trans rfl
       have hfz43_0 := ji qq1.out 0
       have hfz43_1 := ji qq1.out 1
       have hfz43_2 := ji qq1.out 2
       have hfz43_3 := ji qq1.out 3
       have hfz43_4 := ji qq1.out 4
       have hfz43_5 := ji qq1.out 5
       have hnb44 := qf.out
       have hnc44 := qi.out
       have hcz45_0 : wr.cell? ⟨gc, 0, none⟩ = some (.int .i64 a0_0) := (jh qi1.out 0).trans rfl
       have hcz45_1 : wr.cell? ⟨gc, 1, none⟩ = some (.string a0_1) := (jh qi1.out 1).trans rfl
       have hcz45_2 : wr.cell? ⟨gc, 2, none⟩ = some (u216002) := (jh qi1.out 2).trans rfl
       have hcz45_3 : wr.cell? ⟨gc, 3, none⟩ = some (.int .i64 a0_3) := (jh qi1.out 3).trans rfl
       have hcz45_4 : wr.cell? ⟨gc, 4, none⟩ = some (.int .i64 a0_4) := (jh qi1.out 4).trans rfl
       have hcz45_5 : wr.cell? ⟨gc, 5, none⟩ = some (u216005) := (jh qi1.out 5).trans rfl
       have hfz45_0 := ji qi1.out 0
       have hfz45_1 := ji qi1.out 1
       have hfz45_2 := ji qi1.out 2
       have hfz45_3 := ji qi1.out 3
       have hfz45_4 := ji qi1.out 4
       have hfz45_5 := ji qi1.out 5
       have hcz46_0 : wr.cell? ⟨gb214, 0, none⟩ = some (.int .i64 0) := (jh qo1.out 0).trans rfl
       have hcz46_1 : wr.cell? ⟨gb214, 1, none⟩ = some (.string (⟨#[]⟩ : ByteArray)) := (jh qo1.out 1).trans rfl
       have hcz46_2 : wr.cell? ⟨gb214, 2, none⟩ = some (.slice none 0 0) := (jh qo1.out 2).trans rfl
       have hcz46_3 : wr.cell? ⟨gb214, 3, none⟩ = some (.int .i64 0) := (jh qo1.out 3).trans rfl
       have hcz46_4 : wr.cell? ⟨gb214, 4, none⟩ = some (.int .i64 0) := (jh qo1.out 4).trans rfl
       have hcz46_5 : wr.cell? ⟨gb214, 5, none⟩ = some (.slice none 0 0) := (jh qo1.out 5).trans rfl
       have hfz46_0 := ji qo1.out 0
       have hfz46_1 := ji qo1.out 1
       have hfz46_2 := ji qo1.out 2
       have hfz46_3 := ji qo1.out 3
       have hfz46_4 := ji qo1.out 4
       have hfz46_5 := ji qo1.out 5
       obtain ⟨Ao47, co47, eo47⟩ := Kd.R_slice qe.out
       subst eo47
       obtain ⟨Ao48, co48, eo48⟩ := Kd.R_slice qb.out
       subst eo48
       go_wp2
       refine bodyPost_ret (results_cell_row rfl _ _ gb214 29 #[.int .i64 a0_0, .string a0_1, .slice Ao47 qj.length co47, .int .i64 a0_3, .int .i64 a0_4, .slice Ao48 qd.length co48] (0, 0) _ rfl (by (with_reducible repeat (first | refine ja ?_ _ | refine jb ?_ | refine jc ?_ _)); refine jm (cs := #[.int .i64 a0_0, .string a0_1, .slice Ao47 qj.length co47, .int .i64 a0_3, .int .i64 a0_4, .slice none 0 0]) ?_ 5 _ rfl; (with_reducible repeat (first | refine ja ?_ _ | refine jb ?_ | refine jc ?_ _)); refine jm (cs := #[.int .i64 a0_0, .string a0_1, .slice Ao47 qj.length co47, .int .i64 a0_3, .int .i64 0, .slice none 0 0]) ?_ 4 _ rfl; (with_reducible repeat (first | refine ja ?_ _ | refine jb ?_ | refine jc ?_ _)); refine jm (cs := #[.int .i64 a0_0, .string a0_1, .slice Ao47 qj.length co47, .int .i64 0, .int .i64 0, .slice none 0 0]) ?_ 3 _ rfl; (with_reducible repeat (first | refine ja ?_ _ | refine jb ?_ | refine jc ?_ _)); refine jm (cs := #[.int .i64 a0_0, .string a0_1, .slice none 0 0, .int .i64 0, .int .i64 0, .slice none 0 0]) ?_ 2 _ rfl; (with_reducible repeat (first | refine ja ?_ _ | refine jb ?_ | refine jc ?_ _)); refine jm (cs := #[.int .i64 a0_0, .string (⟨#[]⟩ : ByteArray), .slice none 0 0, .int .i64 0, .int .i64 0, .slice none 0 0]) ?_ 1 _ rfl; (with_reducible repeat (first | refine ja ?_ _ | refine jb ?_ | refine jc ?_ _)); refine jm (cs := #[.int .i64 0, .string (⟨#[]⟩ : ByteArray), .slice none 0 0, .int .i64 0, .int .i64 0, .slice none 0 0]) ?_ 0 _ rfl; (with_reducible repeat (first | refine ja ?_ _ | refine jb ?_ | refine jc ?_ _)); exact qo1.out) Try.underlying29 rfl (by kernel_rfl)) rfl ?_
       exact ⟨_, _, by first | rfl | (simp [errW_none, errW_some] <;> rfl) | (simp [*, errW_none, errW_some] <;> rfl), by (with_reducible repeat (first | apply Kd.R_alloc | apply Kd.R_drewN | apply Kd.R_drew)); exact Kd.R_mono (Kd.R_far (p := ⟨gb214, 5, none⟩) (Kd.R_far (p := ⟨gb214, 4, none⟩) (Kd.R_far (p := ⟨gb214, 3, none⟩) (Kd.R_far (p := ⟨gb214, 2, none⟩) (Kd.R_far (p := ⟨gb214, 1, none⟩) (Kd.R_far (p := ⟨gb214, 0, none⟩) (Kd.R_mono qe.out (fun k_ hk => (⟨hk, hk.2.2.1⟩ : _ ∧ k_ ≠ gb214))) (fun _ hk => hk.2) (.int .i64 a0_0)) (fun _ hk => hk.2) (.string a0_1)) (fun _ hk => hk.2) (.slice Ao47 qj.length co47)) (fun _ hk => hk.2) (.int .i64 a0_3)) (fun _ hk => hk.2) (.int .i64 a0_4)) (fun _ hk => hk.2) (.slice Ao48 qd.length co48)) (fun _ hk => hk.1.1), by (with_reducible repeat (first | apply Kd.R_alloc | apply Kd.R_drewN | apply Kd.R_drew)); exact Kd.R_mono (Kd.R_far (p := ⟨gb214, 5, none⟩) (Kd.R_far (p := ⟨gb214, 4, none⟩) (Kd.R_far (p := ⟨gb214, 3, none⟩) (Kd.R_far (p := ⟨gb214, 2, none⟩) (Kd.R_far (p := ⟨gb214, 1, none⟩) (Kd.R_far (p := ⟨gb214, 0, none⟩) (Kd.R_mono qb.out (fun k_ hk => (⟨hk, hk.2.2.1⟩ : _ ∧ k_ ≠ gb214))) (fun _ hk => hk.2) (.int .i64 a0_0)) (fun _ hk => hk.2) (.string a0_1)) (fun _ hk => hk.2) (.slice Ao47 qj.length co47)) (fun _ hk => hk.2) (.int .i64 a0_3)) (fun _ hk => hk.2) (.int .i64 a0_4)) (fun _ hk => hk.2) (.slice Ao48 qd.length co48)) (fun _ hk => hk.1.1), by repeat (first | (with_reducible first | exact HB.out | apply js | apply jt | apply ju | refine jj ?_ qm1.out | refine jj ?_ qk1.out | refine jj ?_ qj1.out) | exact HB.out)⟩

end Go.Proofs.Ytjiidjlmdibhdaa.P
