-- PRINTED by print.py (a twelfth state) out of the translation. Not trusted: Lean checks it.
import Derived.Test.YtjiidjlmdibhdaaPx0
namespace Go.Proofs.Ytjiidjlmdibhdaa.P
open Go.RowKit Go.Proofs.YtjiidjlmdibhdaaW.PrintWords Go.Proofs.YtjiidjlmdibhdaaW.PrintLast Go.Proofs.YtjiidjlmdibhdaaW.PrintMore
attribute [local go_sem] max2_int min2_int max_two min_two max_three min_three max_four min_four   -- for this text's walks alone
set_option linter.unusedVariables false
set_option linter.unusedSimpArgs false

/-! ### spec_l4Same: function 18 -/
mutual
def spec_l4Same.j0 : Nat → Bool → Int → ByteArray → List (S29) → Int → Int → List (S29) → Int → ByteArray → List (S29) → Int → Int → List (S29) → Option (Bool)
 | 0, _, _, _, _, _, _, _, _, _, _, _, _, _ => none
 | k + 1, x50, qc, qa1, qq, qj1, qk, qr, ql1, qc1, qh1, qf, qx, qz => if x50 = true then (some false) else (spec_l4Same.l0 k 0 qc qa1 qq qj1 qk qr ql1 qc1 qh1 qf qx qz)
def spec_l4Same.l0 : Nat → Int → Int → ByteArray → List (S29) → Int → Int → List (S29) → Int → ByteArray → List (S29) → Int → Int → List (S29) → Option (Bool)
 | 0, _, _, _, _, _, _, _, _, _, _, _, _, _ => none
 | k + 1, x5, qc, qa1, qq, qj1, qk, qr, ql1, qc1, qh1, qf, qx, qz => if x5 < (qq.length : Int) then (if 0 ≤ x5 then (if x5 < (qh1.length : Int) then ((spec_l4Same.f k ((rd_T29 qq x5).f0) ((rd_T29 qq x5).f1) ((rd_T29 qq x5).f2) ((rd_T29 qq x5).f3) ((rd_T29 qq x5).f4) ((rd_T29 qq x5).f5) ((rd_T29 qh1 x5).f0) ((rd_T29 qh1 x5).f1) ((rd_T29 qh1 x5).f2) ((rd_T29 qh1 x5).f3) ((rd_T29 qh1 x5).f4) ((rd_T29 qh1 x5).f5)).bind fun t105 => (if t105 = true then (spec_l4Same.l0 k (wrap64 (x5 + 1)) qc qa1 qq qj1 qk qr ql1 qc1 qh1 qf qx qz) else (some false))) else (none)) else (none)) else (spec_l4Same.l1 k 0 qc qa1 qq qj1 qk qr ql1 qc1 qh1 qf qx qz)
def spec_l4Same.l1 : Nat → Int → Int → ByteArray → List (S29) → Int → Int → List (S29) → Int → ByteArray → List (S29) → Int → Int → List (S29) → Option (Bool)
 | 0, _, _, _, _, _, _, _, _, _, _, _, _, _ => none
 | k + 1, x6, qc, qa1, qq, qj1, qk, qr, ql1, qc1, qh1, qf, qx, qz => if x6 < (qr.length : Int) then (if 0 ≤ x6 then (if x6 < (qz.length : Int) then ((spec_l4Same.f k ((rd_T29 qr x6).f0) ((rd_T29 qr x6).f1) ((rd_T29 qr x6).f2) ((rd_T29 qr x6).f3) ((rd_T29 qr x6).f4) ((rd_T29 qr x6).f5) ((rd_T29 qz x6).f0) ((rd_T29 qz x6).f1) ((rd_T29 qz x6).f2) ((rd_T29 qz x6).f3) ((rd_T29 qz x6).f4) ((rd_T29 qz x6).f5)).bind fun t108 => (if t108 = true then (spec_l4Same.l1 k (wrap64 (x6 + 1)) qc qa1 qq qj1 qk qr ql1 qc1 qh1 qf qx qz) else (some false))) else (none)) else (none)) else (some true)
def spec_l4Same.f : Nat → Int → ByteArray → List (S29) → Int → Int → List (S29) → Int → ByteArray → List (S29) → Int → Int → List (S29) → Option (Bool)
 | 0, _, _, _, _, _, _, _, _, _, _, _, _ => none
 | k + 1, a0_0, a0_1, l0_2, a0_3, a0_4, l0_5, a1_0, a1_1, l1_2, a1_3, a1_4, l1_5 => if a0_0 = a1_0 then (if a0_1.toList = a1_1.toList then (if a0_3 = a1_3 then (if a0_4 = a1_4 then (if (l0_2.length : Int) = (l1_2.length : Int) then (spec_l4Same.j0 k ((l0_5.length : Int) != (l1_5.length : Int)) a0_0 a0_1 l0_2 a0_3 a0_4 l0_5 a1_0 a1_1 l1_2 a1_3 a1_4 l1_5) else (spec_l4Same.j0 k true a0_0 a0_1 l0_2 a0_3 a0_4 l0_5 a1_0 a1_1 l1_2 a1_3 a1_4 l1_5)) else (spec_l4Same.j0 k true a0_0 a0_1 l0_2 a0_3 a0_4 l0_5 a1_0 a1_1 l1_2 a1_3 a1_4 l1_5)) else (spec_l4Same.j0 k true a0_0 a0_1 l0_2 a0_3 a0_4 l0_5 a1_0 a1_1 l1_2 a1_3 a1_4 l1_5)) else (spec_l4Same.j0 k true a0_0 a0_1 l0_2 a0_3 a0_4 l0_5 a1_0 a1_1 l1_2 a1_3 a1_4 l1_5)) else (spec_l4Same.j0 k true a0_0 a0_1 l0_2 a0_3 a0_4 l0_5 a1_0 a1_1 l1_2 a1_3 a1_4 l1_5)
end
theorem spec_l4Same.mono_l : ∀ k, (∀ y0 y1 y2 y3 y4 y5 y6 y7 y8 y9 y10 y11, LeO (spec_l4Same.f k y0 y1 y2 y3 y4 y5 y6 y7 y8 y9 y10 y11) (spec_l4Same.f (k + 1) y0 y1 y2 y3 y4 y5 y6 y7 y8 y9 y10 y11)) ∧ (∀ y0 y1 y2 y3 y4 y5 y6 y7 y8 y9 y10 y11 y12, LeO (spec_l4Same.j0 k y0 y1 y2 y3 y4 y5 y6 y7 y8 y9 y10 y11 y12) (spec_l4Same.j0 (k + 1) y0 y1 y2 y3 y4 y5 y6 y7 y8 y9 y10 y11 y12)) ∧ (∀ y0 y1 y2 y3 y4 y5 y6 y7 y8 y9 y10 y11 y12, LeO (spec_l4Same.l0 k y0 y1 y2 y3 y4 y5 y6 y7 y8 y9 y10 y11 y12) (spec_l4Same.l0 (k + 1) y0 y1 y2 y3 y4 y5 y6 y7 y8 y9 y10 y11 y12)) ∧ (∀ y0 y1 y2 y3 y4 y5 y6 y7 y8 y9 y10 y11 y12, LeO (spec_l4Same.l1 k y0 y1 y2 y3 y4 y5 y6 y7 y8 y9 y10 y11 y12) (spec_l4Same.l1 (k + 1) y0 y1 y2 y3 y4 y5 y6 y7 y8 y9 y10 y11 y12))
 | 0 => ⟨fun _ _ _ _ _ _ _ _ _ _ _ _ r h => by simp [spec_l4Same.f] at h, fun _ _ _ _ _ _ _ _ _ _ _ _ _ r h => by simp [spec_l4Same.j0] at h, fun _ _ _ _ _ _ _ _ _ _ _ _ _ r h => by simp [spec_l4Same.l0] at h, fun _ _ _ _ _ _ _ _ _ _ _ _ _ r h => by simp [spec_l4Same.l1] at h⟩
 | k + 1 => by
  obtain ⟨ih0, ih1, ih2, ih3⟩ := spec_l4Same.mono_l k
  refine ⟨?_, ?_, ?_, ?_⟩
  ·intro y0 y1 y2 y3 y4 y5 y6 y7 y8 y9 y10 y11
   unfold spec_l4Same.f
   repeat' first
   | (with_reducible exact ih0 _ _ _ _ _ _ _ _ _ _ _ _)
   | (with_reducible exact ih1 _ _ _ _ _ _ _ _ _ _ _ _ _)
   | (with_reducible exact ih2 _ _ _ _ _ _ _ _ _ _ _ _ _)
   | (with_reducible exact ih3 _ _ _ _ _ _ _ _ _ _ _ _ _)
   | (with_reducible exact LeO.refl _)
   | (with_reducible exact LeO.none _)
   | (with_reducible refine LeO.ite ?_ ?_)
   | (with_reducible refine LeO.bind ?_ (fun _ => ?_))
   | exact ih0 _ _ _ _ _ _ _ _ _ _ _ _
   | exact ih1 _ _ _ _ _ _ _ _ _ _ _ _ _
   | exact ih2 _ _ _ _ _ _ _ _ _ _ _ _ _
   | exact ih3 _ _ _ _ _ _ _ _ _ _ _ _ _
   | exact LeO.none _
   | refine LeO.ite ?_ ?_
   | refine LeO.bind ?_ (fun _ => ?_)
  ·intro y0 y1 y2 y3 y4 y5 y6 y7 y8 y9 y10 y11 y12
   unfold spec_l4Same.j0
   repeat' first
   | (with_reducible exact ih0 _ _ _ _ _ _ _ _ _ _ _ _)
   | (with_reducible exact ih1 _ _ _ _ _ _ _ _ _ _ _ _ _)
   | (with_reducible exact ih2 _ _ _ _ _ _ _ _ _ _ _ _ _)
   | (with_reducible exact ih3 _ _ _ _ _ _ _ _ _ _ _ _ _)
   | (with_reducible exact LeO.refl _)
   | (with_reducible exact LeO.none _)
   | (with_reducible refine LeO.ite ?_ ?_)
   | (with_reducible refine LeO.bind ?_ (fun _ => ?_))
   | exact ih0 _ _ _ _ _ _ _ _ _ _ _ _
   | exact ih1 _ _ _ _ _ _ _ _ _ _ _ _ _
   | exact ih2 _ _ _ _ _ _ _ _ _ _ _ _ _
   | exact ih3 _ _ _ _ _ _ _ _ _ _ _ _ _
   | exact LeO.none _
   | refine LeO.ite ?_ ?_
   | refine LeO.bind ?_ (fun _ => ?_)
  ·intro y0 y1 y2 y3 y4 y5 y6 y7 y8 y9 y10 y11 y12
   unfold spec_l4Same.l0
   repeat' first
   | (with_reducible exact ih0 _ _ _ _ _ _ _ _ _ _ _ _)
   | (with_reducible exact ih1 _ _ _ _ _ _ _ _ _ _ _ _ _)
   | (with_reducible exact ih2 _ _ _ _ _ _ _ _ _ _ _ _ _)
   | (with_reducible exact ih3 _ _ _ _ _ _ _ _ _ _ _ _ _)
   | (with_reducible exact LeO.refl _)
   | (with_reducible exact LeO.none _)
   | (with_reducible refine LeO.ite ?_ ?_)
   | (with_reducible refine LeO.bind ?_ (fun _ => ?_))
   | exact ih0 _ _ _ _ _ _ _ _ _ _ _ _
   | exact ih1 _ _ _ _ _ _ _ _ _ _ _ _ _
   | exact ih2 _ _ _ _ _ _ _ _ _ _ _ _ _
   | exact ih3 _ _ _ _ _ _ _ _ _ _ _ _ _
   | exact LeO.none _
   | refine LeO.ite ?_ ?_
   | refine LeO.bind ?_ (fun _ => ?_)
  ·intro y0 y1 y2 y3 y4 y5 y6 y7 y8 y9 y10 y11 y12
   unfold spec_l4Same.l1
   repeat' first
   | (with_reducible exact ih0 _ _ _ _ _ _ _ _ _ _ _ _)
   | (with_reducible exact ih1 _ _ _ _ _ _ _ _ _ _ _ _ _)
   | (with_reducible exact ih2 _ _ _ _ _ _ _ _ _ _ _ _ _)
   | (with_reducible exact ih3 _ _ _ _ _ _ _ _ _ _ _ _ _)
   | (with_reducible exact LeO.refl _)
   | (with_reducible exact LeO.none _)
   | (with_reducible refine LeO.ite ?_ ?_)
   | (with_reducible refine LeO.bind ?_ (fun _ => ?_))
   | exact ih0 _ _ _ _ _ _ _ _ _ _ _ _
   | exact ih1 _ _ _ _ _ _ _ _ _ _ _ _ _
   | exact ih2 _ _ _ _ _ _ _ _ _ _ _ _ _
   | exact ih3 _ _ _ _ _ _ _ _ _ _ _ _ _
   | exact LeO.none _
   | refine LeO.ite ?_ ?_
   | refine LeO.bind ?_ (fun _ => ?_)
theorem spec_l4Same.mono : ∀ a0 a1 a2 a3 a4 a5 a6 a7 a8 a9 a10 a11 k, LeO (spec_l4Same.f k a0 a1 a2 a3 a4 a5 a6 a7 a8 a9 a10 a11) (spec_l4Same.f (k + 1) a0 a1 a2 a3 a4 a5 a6 a7 a8 a9 a10 a11) := by
 intro a0 a1 a2 a3 a4 a5 a6 a7 a8 a9 a10 a11 k
 obtain ⟨ih0, ih1, ih2, ih3⟩ := spec_l4Same.mono_l k
 exact ih0 a0 a1 a2 a3 a4 a5 a6 a7 a8 a9 a10 a11
def spec_l4Same.T6 : Bool × List (List Nat × List Nat) := (true, [([], []), ([0], [0]), ([], []), ([1, 2], [1, 2]), ([3], [3]), ([], []), ([5], [5]), ([], []), ([6, 7], [6, 7]), ([8], [8]), ([4, 9], [4, 9]), ([10], [10])])
def spec_l4Same.B6 : List Nat := [0, 1, 0, 7, 15, 0, 32, 0, 224, 480, 1023, 2047]
theorem spec_l4Same.tab6 : rtab .any (opsOf Try.f18 6) = spec_l4Same.T6 := by kernel_rfl
theorem spec_l4Same.bits6 : waitsOk spec_l4Same.T6.2 spec_l4Same.B6 = true := by kernel_rfl
def spec_l4Same.T11 : Bool × List (List Nat × List Nat) := (true, [([], []), ([0], [0]), ([], []), ([1, 2], [1, 2]), ([3], [3]), ([], []), ([5], [5]), ([], []), ([6, 7], [6, 7]), ([8], [8]), ([4, 9], [4, 9]), ([10], [10])])
def spec_l4Same.B11 : List Nat := [0, 1, 0, 7, 15, 0, 32, 0, 224, 480, 1023, 2047]
theorem spec_l4Same.tab11 : rtab .any (opsOf Try.f18 11) = spec_l4Same.T11 := by kernel_rfl
theorem spec_l4Same.bits11 : waitsOk spec_l4Same.T11.2 spec_l4Same.B11 = true := by kernel_rfl
open Go.Proofs.YtjiidjlmdibhdaaW.PrintWords renaming blk_drewN → ja, blk_drew → jb, blk_alloc → jc, blk_cell → jh, blk_frozen → ji, below_set → jj, blk_below → jl, below_alloc → js, pw_below_drewN → jt, below_drew1 → ju
set_option maxHeartbeats 8000000 in
set_option maxRecDepth 100000 in
theorem spec_l4Same.calls (k : Nat) : ∀ (a0_0 : Int) (a0_1 : ByteArray) (A0_2 : Option Addr) (c0_2 : Nat) (l0_2 : List (S29)) (a0_3 : Int) (a0_4 : Int) (A0_5 : Option Addr) (c0_5 : Nat) (l0_5 : List (S29)) (a1_0 : Int) (a1_1 : ByteArray) (A1_2 : Option Addr) (c1_2 : Nat) (l1_2 : List (S29)) (a1_3 : Int) (a1_4 : Int) (A1_5 : Option Addr) (c1_5 : Nat) (l1_5 : List (S29)) (r : Bool) (w : World) (hr0_2 : Kd.C k29 w A0_2 l0_2.length l0_2) (hc0_2 : l0_2.length ≤ c0_2) (hr0_5 : Kd.C k29 w A0_5 l0_5.length l0_5) (hc0_5 : l0_5.length ≤ c0_5) (hr1_2 : Kd.C k29 w A1_2 l1_2.length l1_2) (hc1_2 : l1_2.length ≤ c1_2) (hr1_5 : Kd.C k29 w A1_5 l1_5.length l1_5) (hc1_5 : l1_5.length ≤ c1_5) (h : spec_l4Same.f k a0_0 a0_1 l0_2 a0_3 a0_4 l0_5 a1_0 a1_1 l1_2 a1_3 a1_4 l1_5 = some r),
  Calls Try.prog 18 #[.agg #[.int .i64 a0_0, .string a0_1, .slice A0_2 l0_2.length c0_2, .int .i64 a0_3, .int .i64 a0_4, .slice A0_5 l0_5.length c0_5], .agg #[.int .i64 a1_0, .string a1_1, .slice A1_2 l1_2.length c1_2, .int .i64 a1_3, .int .i64 a1_4, .slice A1_5 l1_5.length c1_5]] w fun e w' => e = .returned (.bool r) ∧ Below w.heap.size w w' := by
 induction k using Nat.strongRecOn with
 | _ k ih =>
 intro a0_0 a0_1 A0_2 c0_2 l0_2 a0_3 a0_4 A0_5 c0_5 l0_5 a1_0 a1_1 A1_2 c1_2 l1_2 a1_3 a1_4 A1_5 c1_5 l1_5 r w hr0_2 hc0_2 hr0_5 hc0_5 hr1_2 hc1_2 hr1_5 hc1_5 h
 cases k with
 | zero => exact absurd h (by simp [spec_l4Same.f])
 | succ k =>
 simp only [spec_l4Same.f] at h
 have hu29 := Try.underlying29
 have HR0_2 := Aside0.mk hr0_2
 have HC0_2 := Aside0.mk hc0_2
 clear hr0_2 hc0_2
 have HR0_5 := Aside0.mk hr0_5
 have HC0_5 := Aside0.mk hc0_5
 clear hr0_5 hc0_5
 have HR1_2 := Aside0.mk hr1_2
 have HC1_2 := Aside0.mk hc1_2
 clear hr1_2 hc1_2
 have HR1_5 := Aside0.mk hr1_5
 have HC1_5 := Aside0.mk hc1_5
 clear hr1_5 hc1_5
 have HB := Aside0.mk (Below.refl w.heap.size w)
 have H : (if a0_0 = a1_0 then (if a0_1.toList = a1_1.toList then (if a0_3 = a1_3 then (if a0_4 = a1_4 then (if (l0_2.length : Int) = (l1_2.length : Int) then (spec_l4Same.j0 k ((l0_5.length : Int) != (l1_5.length : Int)) a0_0 a0_1 l0_2 a0_3 a0_4 l0_5 a1_0 a1_1 l1_2 a1_3 a1_4 l1_5) else (spec_l4Same.j0 k true a0_0 a0_1 l0_2 a0_3 a0_4 l0_5 a1_0 a1_1 l1_2 a1_3 a1_4 l1_5)) else (spec_l4Same.j0 k true a0_0 a0_1 l0_2 a0_3 a0_4 l0_5 a1_0 a1_1 l1_2 a1_3 a1_4 l1_5)) else (spec_l4Same.j0 k true a0_0 a0_1 l0_2 a0_3 a0_4 l0_5 a1_0 a1_1 l1_2 a1_3 a1_4 l1_5)) else (spec_l4Same.j0 k true a0_0 a0_1 l0_2 a0_3 a0_4 l0_5 a1_0 a1_1 l1_2 a1_3 a1_4 l1_5)) else (spec_l4Same.j0 k true a0_0 a0_1 l0_2 a0_3 a0_4 l0_5 a1_0 a1_1 l1_2 a1_3 a1_4 l1_5)) = some r := h
 clear h
 have HC3 := Aside0.mk H
 clear H
 go_enter Try.func18, Try.ntmps18
 go_upto_region 1 with (first | ((with_reducible refine gate_dst (N := 2) rfl ?_); refine box_event ?hg (N := 2) ?hd (cs := #[.int .i64 a0_0, .string a0_1, .slice A0_2 l0_2.length c0_2, .int .i64 a0_3, .int .i64 a0_4, .slice A0_5 l0_5.length c0_5]) (t := 29) ?hr ?_; (case hd => rfl); (case hg => rfl); (case hr => first | (go_simp; done) | (go_simp; rfl)); intro ga hg w4 hbox hb; have n0_ := Aside0.mk (below_step (by repeat (first | (with_reducible first | exact HB.out | apply js | apply jt | apply ju) | exact HB.out)) hb); have n1_ := Aside0.mk (hbox); have n2_ := Aside0.mk ((by rw [hg]; exact (below_size (by repeat (first | (with_reducible first | exact HB.out | apply js | apply jt | apply ju) | exact HB.out))) : w.heap.size ≤ ga)); have n3_ := Aside0.mk ((by rw [hg]; exact (below_size (by repeat (first | (with_reducible first | exact HB.out | apply js | apply jt | apply ju) | exact HB.out))) : w.heap.size ≤ ga)); clear HB; have HB := n0_; have qq1 := n1_; have qr1 := n2_; have qn1 := n3_; clear n0_ n1_ n2_ n3_; clear hb hbox hg) | ((with_reducible refine gate_dst (N := 3) rfl ?_); refine box_event ?hg (N := 3) ?hd (cs := #[.int .i64 a1_0, .string a1_1, .slice A1_2 l1_2.length c1_2, .int .i64 a1_3, .int .i64 a1_4, .slice A1_5 l1_5.length c1_5]) (t := 29) ?hr ?_; (case hd => rfl); (case hg => rfl); (case hr => first | (go_simp; done) | (go_simp; rfl)); intro gc hg w5 hbox hb; have n0_ := Aside0.mk (jl (g := ga) (o := .cells #[.int .i64 a0_0, .string a0_1, .slice A0_2 l0_2.length c0_2, .int .i64 a0_3, .int .i64 a0_4, .slice A0_5 l0_5.length c0_5] 29 (0, 0)) (by (with_reducible repeat (first | refine ja ?_ _ | refine jb ?_ | refine jc ?_ _)); exact qq1.out) hb); have n1_ := Aside0.mk (below_step (by repeat (first | (with_reducible first | exact HB.out | apply js | apply jt | apply ju | refine jj ?_ qn1.out) | exact HB.out)) hb); have n2_ := Aside0.mk (hbox); have n3_ := Aside0.mk ((by rw [hg]; exact (below_size (by repeat (first | (with_reducible first | exact HB.out | apply js | apply jt | apply ju | refine jj ?_ qn1.out) | exact HB.out))) : w.heap.size ≤ gc)); have n4_ := Aside0.mk ((by rw [hg]; exact (below_size (by repeat (first | (with_reducible first | exact HB.out | apply js | apply jt | apply ju | refine jj ?_ qn1.out) | exact HB.out))) : w.heap.size ≤ gc)); have n5_ := Aside0.mk ((by rw [hg]; exact Nat.ne_of_lt (blk_lt (g := ga) (o := .cells #[.int .i64 a0_0, .string a0_1, .slice A0_2 l0_2.length c0_2, .int .i64 a0_3, .int .i64 a0_4, .slice A0_5 l0_5.length c0_5] 29 (0, 0)) (by (with_reducible repeat (first | refine ja ?_ _ | refine jb ?_ | refine jc ?_ _)); exact qq1.out)) : ga ≠ gc)); have n6_ := Aside0.mk ((by rw [hg]; exact Nat.ne_of_gt (blk_lt (g := ga) (o := .cells #[.int .i64 a0_0, .string a0_1, .slice A0_2 l0_2.length c0_2, .int .i64 a0_3, .int .i64 a0_4, .slice A0_5 l0_5.length c0_5] 29 (0, 0)) (by (with_reducible repeat (first | refine ja ?_ _ | refine jb ?_ | refine jc ?_ _)); exact qq1.out)) : gc ≠ ga)); clear qq1; clear HB; have qq1 := n0_; have HB := n1_; have qo1 := n2_; have qm1 := n3_; have qp1 := n4_; have qa := n5_; have qb := n6_; clear n0_ n1_ n2_ n3_ n4_ n5_ n6_; clear hb hbox hg))
 (try simp only [Act.put, List.setIfInBounds_toArray, List.set_cons_zero, List.set_cons_succ])
 go_cut [50] (fun v50 wc => ∃ (kq : Nat) (x50_2 : Bool), v50 = .bool x50_2 ∧ Aside0 (spec_l4Same.j0 kq x50_2 a0_0 a0_1 l0_2 a0_3 a0_4 l0_5 a1_0 a1_1 l1_2 a1_3 a1_4 l1_5 = some r) ∧ Aside0 (kq ≤ k) ∧ Aside0 (wc.heap[ga]? = some (.cells #[.int .i64 a0_0, .string a0_1, (.slice A0_2 l0_2.length c0_2), .int .i64 a0_3, .int .i64 a0_4, (.slice A0_5 l0_5.length c0_5)] 29 (0, 0))) ∧ Aside0 (wc.heap[gc]? = some (.cells #[.int .i64 a1_0, .string a1_1, (.slice A1_2 l1_2.length c1_2), .int .i64 a1_3, .int .i64 a1_4, (.slice A1_5 l1_5.length c1_5)] 29 (0, 0))) ∧ Aside0 (Below w.heap.size w wc))
 case first =>
  have H := HC3.out
  clear HC3
  by_cases c6 : a0_0 = a1_0
  ·rw [if_pos c6] at H
   have c6b0 : (a0_0 == a1_0) = true := beq_iff_eq.mpr c6
   have c6b1 : (a0_0 != a1_0) = false := bne_eq_false_iff_eq.mpr c6
   clear c6
   (first | rw [c6b0] | (simp only [i64_w, i32_w]; rw [c6b0]) | skip)
   by_cases c7 : a0_1.toList = a1_1.toList
   ·rw [if_pos c7] at H
    have c7b0 : (a0_1.toList == a1_1.toList) = true := beq_iff_eq.mpr c7
    have c7b1 : (a0_1.toList != a1_1.toList) = false := bne_eq_false_iff_eq.mpr c7
    clear c7
    by_cases c8 : a0_3 = a1_3
    ·rw [if_pos c8] at H
     have c8b0 : (a0_3 == a1_3) = true := beq_iff_eq.mpr c8
     have c8b1 : (a0_3 != a1_3) = false := bne_eq_false_iff_eq.mpr c8
     clear c8
     by_cases c9 : a0_4 = a1_4
     ·rw [if_pos c9] at H
      have c9b0 : (a0_4 == a1_4) = true := beq_iff_eq.mpr c9
      have c9b1 : (a0_4 != a1_4) = false := bne_eq_false_iff_eq.mpr c9
      clear c9
      by_cases c10 : (l0_2.length : Int) = (l1_2.length : Int)
      ·rw [if_pos c10] at H
       have c10b0 : ((l0_2.length : Int) == (l1_2.length : Int)) = true := beq_iff_eq.mpr c10
       have c10b1 : ((l0_2.length : Int) != (l1_2.length : Int)) = false := bne_eq_false_iff_eq.mpr c10
       have c10b2 : (l0_2.length == l1_2.length) = true := by first | simpa using c10 | (simp at c10 ⊢; omega)
       clear c10
       have H' := Aside0.mk H
       clear H
       have hnb11 := qa.out
       have hnc11 := qb.out
       have hcz12_0 : w5.cell? ⟨ga, 0, none⟩ = some (.int .i64 a0_0) := (jh qq1.out 0).trans rfl
       have hcz12_1 : w5.cell? ⟨ga, 1, none⟩ = some (.string a0_1) := (jh qq1.out 1).trans rfl
       have hcz12_2 : w5.cell? ⟨ga, 2, none⟩ = some (.slice A0_2 l0_2.length c0_2) := (jh qq1.out 2).trans rfl
       have hcz12_3 : w5.cell? ⟨ga, 3, none⟩ = some (.int .i64 a0_3) := (jh qq1.out 3).trans rfl
       have hcz12_4 : w5.cell? ⟨ga, 4, none⟩ = some (.int .i64 a0_4) := (jh qq1.out 4).trans rfl
       have hcz12_5 : w5.cell? ⟨ga, 5, none⟩ = some (.slice A0_5 l0_5.length c0_5) := (jh qq1.out 5).trans rfl
       have hfz12_0 := ji qq1.out 0
       have hfz12_1 := ji qq1.out 1
       have hfz12_2 := ji qq1.out 2
       have hfz12_3 := ji qq1.out 3
       have hfz12_4 := ji qq1.out 4
       have hfz12_5 := ji qq1.out 5
       have hcz13_0 : w5.cell? ⟨gc, 0, none⟩ = some (.int .i64 a1_0) := (jh qo1.out 0).trans rfl
       have hcz13_1 : w5.cell? ⟨gc, 1, none⟩ = some (.string a1_1) := (jh qo1.out 1).trans rfl
       have hcz13_2 : w5.cell? ⟨gc, 2, none⟩ = some (.slice A1_2 l1_2.length c1_2) := (jh qo1.out 2).trans rfl
       have hcz13_3 : w5.cell? ⟨gc, 3, none⟩ = some (.int .i64 a1_3) := (jh qo1.out 3).trans rfl
       have hcz13_4 : w5.cell? ⟨gc, 4, none⟩ = some (.int .i64 a1_4) := (jh qo1.out 4).trans rfl
       have hcz13_5 : w5.cell? ⟨gc, 5, none⟩ = some (.slice A1_5 l1_5.length c1_5) := (jh qo1.out 5).trans rfl
       have hfz13_0 := ji qo1.out 0
       have hfz13_1 := ji qo1.out 1
       have hfz13_2 := ji qo1.out 2
       have hfz13_3 := ji qo1.out 3
       have hfz13_4 := ji qo1.out 4
       have hfz13_5 := ji qo1.out 5
       go_wp2
       go_meet
       case rel => exact ⟨_, (((l0_5.length : Int) != (l1_5.length : Int))), (by first | rfl | (simp; done) | (simp [*]; done)), H', ⟨by first | omega | exact Nat.le_refl _⟩, ⟨by (with_reducible repeat (first | refine ja ?_ _ | refine jb ?_ | refine jc ?_ _)); exact qq1.out⟩, ⟨by (with_reducible repeat (first | refine ja ?_ _ | refine jb ?_ | refine jc ?_ _)); exact qo1.out⟩, ⟨by repeat (first | (with_reducible first | exact HB.out | apply js | apply jt | apply ju | refine jj ?_ qn1.out | refine jj ?_ qp1.out) | exact HB.out)⟩⟩
      ·rw [if_neg c10] at H
       have c10b0 : ((l0_2.length : Int) == (l1_2.length : Int)) = false := beq_eq_false_iff_ne.mpr c10
       have c10b1 : ((l0_2.length : Int) != (l1_2.length : Int)) = true := bne_iff_ne.mpr c10
       have c10b2 : (l0_2.length == l1_2.length) = false := by first | simpa using c10 | (simp at c10 ⊢; omega)
       have H' := Aside0.mk H
       clear H
       have hnb14 := qa.out
       have hnc14 := qb.out
       have hcz15_0 : w5.cell? ⟨ga, 0, none⟩ = some (.int .i64 a0_0) := (jh qq1.out 0).trans rfl
       have hcz15_1 : w5.cell? ⟨ga, 1, none⟩ = some (.string a0_1) := (jh qq1.out 1).trans rfl
       have hcz15_2 : w5.cell? ⟨ga, 2, none⟩ = some (.slice A0_2 l0_2.length c0_2) := (jh qq1.out 2).trans rfl
       have hcz15_3 : w5.cell? ⟨ga, 3, none⟩ = some (.int .i64 a0_3) := (jh qq1.out 3).trans rfl
       have hcz15_4 : w5.cell? ⟨ga, 4, none⟩ = some (.int .i64 a0_4) := (jh qq1.out 4).trans rfl
       have hcz15_5 : w5.cell? ⟨ga, 5, none⟩ = some (.slice A0_5 l0_5.length c0_5) := (jh qq1.out 5).trans rfl
       have hfz15_0 := ji qq1.out 0
       have hfz15_1 := ji qq1.out 1
       have hfz15_2 := ji qq1.out 2
       have hfz15_3 := ji qq1.out 3
       have hfz15_4 := ji qq1.out 4
       have hfz15_5 := ji qq1.out 5
       have hcz16_0 : w5.cell? ⟨gc, 0, none⟩ = some (.int .i64 a1_0) := (jh qo1.out 0).trans rfl
       have hcz16_1 : w5.cell? ⟨gc, 1, none⟩ = some (.string a1_1) := (jh qo1.out 1).trans rfl
       have hcz16_2 : w5.cell? ⟨gc, 2, none⟩ = some (.slice A1_2 l1_2.length c1_2) := (jh qo1.out 2).trans rfl
       have hcz16_3 : w5.cell? ⟨gc, 3, none⟩ = some (.int .i64 a1_3) := (jh qo1.out 3).trans rfl
       have hcz16_4 : w5.cell? ⟨gc, 4, none⟩ = some (.int .i64 a1_4) := (jh qo1.out 4).trans rfl
       have hcz16_5 : w5.cell? ⟨gc, 5, none⟩ = some (.slice A1_5 l1_5.length c1_5) := (jh qo1.out 5).trans rfl
       have hfz16_0 := ji qo1.out 0
       have hfz16_1 := ji qo1.out 1
       have hfz16_2 := ji qo1.out 2
       have hfz16_3 := ji qo1.out 3
       have hfz16_4 := ji qo1.out 4
       have hfz16_5 := ji qo1.out 5
       go_wp2
       go_meet
       case rel => exact ⟨_, (true), (by first | rfl | (simp; done) | (simp [*]; done)), H', ⟨by first | omega | exact Nat.le_refl _⟩, ⟨by (with_reducible repeat (first | refine ja ?_ _ | refine jb ?_ | refine jc ?_ _)); exact qq1.out⟩, ⟨by (with_reducible repeat (first | refine ja ?_ _ | refine jb ?_ | refine jc ?_ _)); exact qo1.out⟩, ⟨by repeat (first | (with_reducible first | exact HB.out | apply js | apply jt | apply ju | refine jj ?_ qn1.out | refine jj ?_ qp1.out) | exact HB.out)⟩⟩
     ·rw [if_neg c9] at H
      have c9b0 : (a0_4 == a1_4) = false := beq_eq_false_iff_ne.mpr c9
      have c9b1 : (a0_4 != a1_4) = true := bne_iff_ne.mpr c9
      have H' := Aside0.mk H
      clear H
      have hnb17 := qa.out
      have hnc17 := qb.out
      have hcz18_0 : w5.cell? ⟨ga, 0, none⟩ = some (.int .i64 a0_0) := (jh qq1.out 0).trans rfl
      have hcz18_1 : w5.cell? ⟨ga, 1, none⟩ = some (.string a0_1) := (jh qq1.out 1).trans rfl
      have hcz18_2 : w5.cell? ⟨ga, 2, none⟩ = some (.slice A0_2 l0_2.length c0_2) := (jh qq1.out 2).trans rfl
      have hcz18_3 : w5.cell? ⟨ga, 3, none⟩ = some (.int .i64 a0_3) := (jh qq1.out 3).trans rfl
      have hcz18_4 : w5.cell? ⟨ga, 4, none⟩ = some (.int .i64 a0_4) := (jh qq1.out 4).trans rfl
      have hcz18_5 : w5.cell? ⟨ga, 5, none⟩ = some (.slice A0_5 l0_5.length c0_5) := (jh qq1.out 5).trans rfl
      have hfz18_0 := ji qq1.out 0
      have hfz18_1 := ji qq1.out 1
      have hfz18_2 := ji qq1.out 2
      have hfz18_3 := ji qq1.out 3
      have hfz18_4 := ji qq1.out 4
      have hfz18_5 := ji qq1.out 5
      have hcz19_0 : w5.cell? ⟨gc, 0, none⟩ = some (.int .i64 a1_0) := (jh qo1.out 0).trans rfl
      have hcz19_1 : w5.cell? ⟨gc, 1, none⟩ = some (.string a1_1) := (jh qo1.out 1).trans rfl
      have hcz19_2 : w5.cell? ⟨gc, 2, none⟩ = some (.slice A1_2 l1_2.length c1_2) := (jh qo1.out 2).trans rfl
      have hcz19_3 : w5.cell? ⟨gc, 3, none⟩ = some (.int .i64 a1_3) := (jh qo1.out 3).trans rfl
      have hcz19_4 : w5.cell? ⟨gc, 4, none⟩ = some (.int .i64 a1_4) := (jh qo1.out 4).trans rfl
      have hcz19_5 : w5.cell? ⟨gc, 5, none⟩ = some (.slice A1_5 l1_5.length c1_5) := (jh qo1.out 5).trans rfl
      have hfz19_0 := ji qo1.out 0
      have hfz19_1 := ji qo1.out 1
      have hfz19_2 := ji qo1.out 2
      have hfz19_3 := ji qo1.out 3
      have hfz19_4 := ji qo1.out 4
      have hfz19_5 := ji qo1.out 5
      go_wp2
      go_meet
      case rel => exact ⟨_, (true), (by first | rfl | (simp; done) | (simp [*]; done)), H', ⟨by first | omega | exact Nat.le_refl _⟩, ⟨by (with_reducible repeat (first | refine ja ?_ _ | refine jb ?_ | refine jc ?_ _)); exact qq1.out⟩, ⟨by (with_reducible repeat (first | refine ja ?_ _ | refine jb ?_ | refine jc ?_ _)); exact qo1.out⟩, ⟨by repeat (first | (with_reducible first | exact HB.out | apply js | apply jt | apply ju | refine jj ?_ qn1.out | refine jj ?_ qp1.out) | exact HB.out)⟩⟩
    ·rw [if_neg c8] at H
     have c8b0 : (a0_3 == a1_3) = false := beq_eq_false_iff_ne.mpr c8
     have c8b1 : (a0_3 != a1_3) = true := bne_iff_ne.mpr c8
     have H' := Aside0.mk H
     clear H
     have hnb20 := qa.out
     have hnc20 := qb.out
     have hcz21_0 : w5.cell? ⟨ga, 0, none⟩ = some (.int .i64 a0_0) := (jh qq1.out 0).trans rfl
     have hcz21_1 : w5.cell? ⟨ga, 1, none⟩ = some (.string a0_1) := (jh qq1.out 1).trans rfl
     have hcz21_2 : w5.cell? ⟨ga, 2, none⟩ = some (.slice A0_2 l0_2.length c0_2) := (jh qq1.out 2).trans rfl
     have hcz21_3 : w5.cell? ⟨ga, 3, none⟩ = some (.int .i64 a0_3) := (jh qq1.out 3).trans rfl
     have hcz21_4 : w5.cell? ⟨ga, 4, none⟩ = some (.int .i64 a0_4) := (jh qq1.out 4).trans rfl
     have hcz21_5 : w5.cell? ⟨ga, 5, none⟩ = some (.slice A0_5 l0_5.length c0_5) := (jh qq1.out 5).trans rfl
     have hfz21_0 := ji qq1.out 0
     have hfz21_1 := ji qq1.out 1
     have hfz21_2 := ji qq1.out 2
     have hfz21_3 := ji qq1.out 3
     have hfz21_4 := ji qq1.out 4
     have hfz21_5 := ji qq1.out 5
     have hcz22_0 : w5.cell? ⟨gc, 0, none⟩ = some (.int .i64 a1_0) := (jh qo1.out 0).trans rfl
     have hcz22_1 : w5.cell? ⟨gc, 1, none⟩ = some (.string a1_1) := (jh qo1.out 1).trans rfl
     have hcz22_2 : w5.cell? ⟨gc, 2, none⟩ = some (.slice A1_2 l1_2.length c1_2) := (jh qo1.out 2).trans rfl
     have hcz22_3 : w5.cell? ⟨gc, 3, none⟩ = some (.int .i64 a1_3) := (jh qo1.out 3).trans rfl
     have hcz22_4 : w5.cell? ⟨gc, 4, none⟩ = some (.int .i64 a1_4) := (jh qo1.out 4).trans rfl
     have hcz22_5 : w5.cell? ⟨gc, 5, none⟩ = some (.slice A1_5 l1_5.length c1_5) := (jh qo1.out 5).trans rfl
     have hfz22_0 := ji qo1.out 0
     have hfz22_1 := ji qo1.out 1
     have hfz22_2 := ji qo1.out 2
     have hfz22_3 := ji qo1.out 3
     have hfz22_4 := ji qo1.out 4
     have hfz22_5 := ji qo1.out 5
     go_wp2
     go_meet
     case rel => exact ⟨_, (true), (by first | rfl | (simp; done) | (simp [*]; done)), H', ⟨by first | omega | exact Nat.le_refl _⟩, ⟨by (with_reducible repeat (first | refine ja ?_ _ | refine jb ?_ | refine jc ?_ _)); exact qq1.out⟩, ⟨by (with_reducible repeat (first | refine ja ?_ _ | refine jb ?_ | refine jc ?_ _)); exact qo1.out⟩, ⟨by repeat (first | (with_reducible first | exact HB.out | apply js | apply jt | apply ju | refine jj ?_ qn1.out | refine jj ?_ qp1.out) | exact HB.out)⟩⟩
   ·rw [if_neg c7] at H
    have c7b0 : (a0_1.toList == a1_1.toList) = false := beq_eq_false_iff_ne.mpr c7
    have c7b1 : (a0_1.toList != a1_1.toList) = true := bne_iff_ne.mpr c7
    have H' := Aside0.mk H
    clear H
    have hnb23 := qa.out
    have hnc23 := qb.out
    have hcz24_0 : w5.cell? ⟨ga, 0, none⟩ = some (.int .i64 a0_0) := (jh qq1.out 0).trans rfl
    have hcz24_1 : w5.cell? ⟨ga, 1, none⟩ = some (.string a0_1) := (jh qq1.out 1).trans rfl
    have hcz24_2 : w5.cell? ⟨ga, 2, none⟩ = some (.slice A0_2 l0_2.length c0_2) := (jh qq1.out 2).trans rfl
    have hcz24_3 : w5.cell? ⟨ga, 3, none⟩ = some (.int .i64 a0_3) := (jh qq1.out 3).trans rfl
    have hcz24_4 : w5.cell? ⟨ga, 4, none⟩ = some (.int .i64 a0_4) := (jh qq1.out 4).trans rfl
    have hcz24_5 : w5.cell? ⟨ga, 5, none⟩ = some (.slice A0_5 l0_5.length c0_5) := (jh qq1.out 5).trans rfl
    have hfz24_0 := ji qq1.out 0
    have hfz24_1 := ji qq1.out 1
    have hfz24_2 := ji qq1.out 2
    have hfz24_3 := ji qq1.out 3
    have hfz24_4 := ji qq1.out 4
    have hfz24_5 := ji qq1.out 5
    have hcz25_0 : w5.cell? ⟨gc, 0, none⟩ = some (.int .i64 a1_0) := (jh qo1.out 0).trans rfl
    have hcz25_1 : w5.cell? ⟨gc, 1, none⟩ = some (.string a1_1) := (jh qo1.out 1).trans rfl
    have hcz25_2 : w5.cell? ⟨gc, 2, none⟩ = some (.slice A1_2 l1_2.length c1_2) := (jh qo1.out 2).trans rfl
    have hcz25_3 : w5.cell? ⟨gc, 3, none⟩ = some (.int .i64 a1_3) := (jh qo1.out 3).trans rfl
    have hcz25_4 : w5.cell? ⟨gc, 4, none⟩ = some (.int .i64 a1_4) := (jh qo1.out 4).trans rfl
    have hcz25_5 : w5.cell? ⟨gc, 5, none⟩ = some (.slice A1_5 l1_5.length c1_5) := (jh qo1.out 5).trans rfl
    have hfz25_0 := ji qo1.out 0
    have hfz25_1 := ji qo1.out 1
    have hfz25_2 := ji qo1.out 2
    have hfz25_3 := ji qo1.out 3
    have hfz25_4 := ji qo1.out 4
    have hfz25_5 := ji qo1.out 5
    go_wp2
    go_meet
    case rel => exact ⟨_, (true), (by first | rfl | (simp; done) | (simp [*]; done)), H', ⟨by first | omega | exact Nat.le_refl _⟩, ⟨by (with_reducible repeat (first | refine ja ?_ _ | refine jb ?_ | refine jc ?_ _)); exact qq1.out⟩, ⟨by (with_reducible repeat (first | refine ja ?_ _ | refine jb ?_ | refine jc ?_ _)); exact qo1.out⟩, ⟨by repeat (first | (with_reducible first | exact HB.out | apply js | apply jt | apply ju | refine jj ?_ qn1.out | refine jj ?_ qp1.out) | exact HB.out)⟩⟩
  ·rw [if_neg c6] at H
   have c6b0 : (a0_0 == a1_0) = false := beq_eq_false_iff_ne.mpr c6
   have c6b1 : (a0_0 != a1_0) = true := bne_iff_ne.mpr c6
   (first | rw [c6b0] | (simp only [i64_w, i32_w]; rw [c6b0]) | skip)
   have H' := Aside0.mk H
   clear H
   have hnb26 := qa.out
   have hnc26 := qb.out
   have hcz27_0 : w5.cell? ⟨ga, 0, none⟩ = some (.int .i64 a0_0) := (jh qq1.out 0).trans rfl
   have hcz27_1 : w5.cell? ⟨ga, 1, none⟩ = some (.string a0_1) := (jh qq1.out 1).trans rfl
   have hcz27_2 : w5.cell? ⟨ga, 2, none⟩ = some (.slice A0_2 l0_2.length c0_2) := (jh qq1.out 2).trans rfl
   have hcz27_3 : w5.cell? ⟨ga, 3, none⟩ = some (.int .i64 a0_3) := (jh qq1.out 3).trans rfl
   have hcz27_4 : w5.cell? ⟨ga, 4, none⟩ = some (.int .i64 a0_4) := (jh qq1.out 4).trans rfl
   have hcz27_5 : w5.cell? ⟨ga, 5, none⟩ = some (.slice A0_5 l0_5.length c0_5) := (jh qq1.out 5).trans rfl
   have hfz27_0 := ji qq1.out 0
   have hfz27_1 := ji qq1.out 1
   have hfz27_2 := ji qq1.out 2
   have hfz27_3 := ji qq1.out 3
   have hfz27_4 := ji qq1.out 4
   have hfz27_5 := ji qq1.out 5
   have hcz28_0 : w5.cell? ⟨gc, 0, none⟩ = some (.int .i64 a1_0) := (jh qo1.out 0).trans rfl
   have hcz28_1 : w5.cell? ⟨gc, 1, none⟩ = some (.string a1_1) := (jh qo1.out 1).trans rfl
   have hcz28_2 : w5.cell? ⟨gc, 2, none⟩ = some (.slice A1_2 l1_2.length c1_2) := (jh qo1.out 2).trans rfl
   have hcz28_3 : w5.cell? ⟨gc, 3, none⟩ = some (.int .i64 a1_3) := (jh qo1.out 3).trans rfl
   have hcz28_4 : w5.cell? ⟨gc, 4, none⟩ = some (.int .i64 a1_4) := (jh qo1.out 4).trans rfl
   have hcz28_5 : w5.cell? ⟨gc, 5, none⟩ = some (.slice A1_5 l1_5.length c1_5) := (jh qo1.out 5).trans rfl
   have hfz28_0 := ji qo1.out 0
   have hfz28_1 := ji qo1.out 1
   have hfz28_2 := ji qo1.out 2
   have hfz28_3 := ji qo1.out 3
   have hfz28_4 := ji qo1.out 4
   have hfz28_5 := ji qo1.out 5
   go_wp2
   go_meet
   case rel => exact ⟨_, (true), (by first | rfl | (simp; done) | (simp [*]; done)), H', ⟨by first | omega | exact Nat.le_refl _⟩, ⟨by (with_reducible repeat (first | refine ja ?_ _ | refine jb ?_ | refine jc ?_ _)); exact qq1.out⟩, ⟨by (with_reducible repeat (first | refine ja ?_ _ | refine jb ?_ | refine jc ?_ _)); exact qo1.out⟩, ⟨by repeat (first | (with_reducible first | exact HB.out | apply js | apply jt | apply ju | refine jj ?_ qn1.out | refine jj ?_ qp1.out) | exact HB.out)⟩⟩
 case rest =>
  clear HC3
  try clear c1
  try clear c2
  try clear p2
  try clear c6
  try clear c6b0
  try clear c6b1
  try clear c7
  try clear c7b0
  try clear c7b1
  try clear c8
  try clear c8b0
  try clear c8b1
  try clear c9
  try clear c9b0
  try clear c9b1
  try clear c10
  try clear c10b0
  try clear c10b1
  try clear c10b2
  try clear c11
  try clear c14
  try clear c17
  try clear c18
  try clear c20
  try clear c23
  try clear c26
  try clear hcz12_0
  try clear hcz12_1
  try clear hcz12_2
  try clear hcz12_3
  try clear hcz12_4
  try clear hcz12_5
  try clear hcz13_0
  try clear hcz13_1
  try clear hcz13_2
  try clear hcz13_3
  try clear hcz13_4
  try clear hcz13_5
  try clear hcz15_0
  try clear hcz15_1
  try clear hcz15_2
  try clear hcz15_3
  try clear hcz15_4
  try clear hcz15_5
  try clear hcz16_0
  try clear hcz16_1
  try clear hcz16_2
  try clear hcz16_3
  try clear hcz16_4
  try clear hcz16_5
  try clear hcz18_0
  try clear hcz18_1
  try clear hcz18_2
  try clear hcz18_3
  try clear hcz18_4
  try clear hcz18_5
  try clear hcz19_0
  try clear hcz19_1
  try clear hcz19_2
  try clear hcz19_3
  try clear hcz19_4
  try clear hcz19_5
  try clear hcz21_0
  try clear hcz21_1
  try clear hcz21_2
  try clear hcz21_3
  try clear hcz21_4
  try clear hcz21_5
  try clear hcz22_0
  try clear hcz22_1
  try clear hcz22_2
  try clear hcz22_3
  try clear hcz22_4
  try clear hcz22_5
  try clear hcz24_0
  try clear hcz24_1
  try clear hcz24_2
  try clear hcz24_3
  try clear hcz24_4
  try clear hcz24_5
  try clear hcz25_0
  try clear hcz25_1
  try clear hcz25_2
  try clear hcz25_3
  try clear hcz25_4
  try clear hcz25_5
  try clear hcz27_0
  try clear hcz27_1
  try clear hcz27_2
  try clear hcz27_3
  try clear hcz27_4
  try clear hcz27_5
  try clear hcz28_0
  try clear hcz28_1
  try clear hcz28_2
  try clear hcz28_3
  try clear hcz28_4
  try clear hcz28_5
  try clear hfz12_0
  try clear hfz12_1
  try clear hfz12_2
  try clear hfz12_3
  try clear hfz12_4
  try clear hfz12_5
  try clear hfz13_0
  try clear hfz13_1
  try clear hfz13_2
  try clear hfz13_3
  try clear hfz13_4
  try clear hfz13_5
  try clear hfz15_0
  try clear hfz15_1
  try clear hfz15_2
  try clear hfz15_3
  try clear hfz15_4
  try clear hfz15_5
  try clear hfz16_0
  try clear hfz16_1
  try clear hfz16_2
  try clear hfz16_3
  try clear hfz16_4
  try clear hfz16_5
  try clear hfz18_0
  try clear hfz18_1
  try clear hfz18_2
  try clear hfz18_3
  try clear hfz18_4
  try clear hfz18_5
  try clear hfz19_0
  try clear hfz19_1
  try clear hfz19_2
  try clear hfz19_3
  try clear hfz19_4
  try clear hfz19_5
  try clear hfz21_0
  try clear hfz21_1
  try clear hfz21_2
  try clear hfz21_3
  try clear hfz21_4
  try clear hfz21_5
  try clear hfz22_0
  try clear hfz22_1
  try clear hfz22_2
  try clear hfz22_3
  try clear hfz22_4
  try clear hfz22_5
  try clear hfz24_0
  try clear hfz24_1
  try clear hfz24_2
  try clear hfz24_3
  try clear hfz24_4
  try clear hfz24_5
  try clear hfz25_0
  try clear hfz25_1
  try clear hfz25_2
  try clear hfz25_3
  try clear hfz25_4
  try clear hfz25_5
  try clear hfz27_0
  try clear hfz27_1
  try clear hfz27_2
  try clear hfz27_3
  try clear hfz27_4
  try clear hfz27_5
  try clear hfz28_0
  try clear hfz28_1
  try clear hfz28_2
  try clear hfz28_3
  try clear hfz28_4
  try clear hfz28_5
  obtain ⟨kq, x50_2, rfl, HA, HJ2, qq1, qo1, HB⟩ := hcut
  cases kq with
  | zero => exact absurd HA.out (by simp [spec_l4Same.j0])
  | succ kj2 =>
   have H := HA.out
   clear HA
   simp only [spec_l4Same.j0] at H
   by_cases c29 : x50_2 = true
   ·subst c29
    have H1 : (some false) = some r := by rw [if_pos rfl] at H; exact H
    clear H
    have H := H1
    clear H1
    obtain rfl := Option.some.inj H
    go_wp2
    go_ret
    exact ⟨by first | rfl | (simp [errW_none, errW_some] <;> rfl) | (simp [*, errW_none, errW_some] <;> rfl) | (simp only [Bool.and_eq_true, beq_iff_eq, Bool.not_eq_true', Bool.not_eq_eq_eq_not, Bool.not_true, Bool.not_false] at *; simp [*]), by repeat (first | (with_reducible first | exact HB.out | apply js | apply jt | apply ju | refine jj ?_ qn1.out | refine jj ?_ qp1.out) | exact HB.out)⟩
   ·replace c29 := Bool.eq_false_iff.mpr c29
    subst c29
    have H1 : (spec_l4Same.l0 kj2 0 a0_0 a0_1 l0_2 a0_3 a0_4 l0_5 a1_0 a1_1 l1_2 a1_3 a1_4 l1_5) = some r := by rw [if_neg (show ¬ (false = true) by decide)] at H; exact H
    clear H
    have H := H1
    clear H1
    have H' := Aside0.mk H
    clear H
    go_wp2
    go_loopg [5] kj2 (fun kq v5 w' => ∃ (x5_2 : Int), v5 = .int .i64 x5_2 ∧ Aside0 (spec_l4Same.l0 kq x5_2 a0_0 a0_1 l0_2 a0_3 a0_4 l0_5 a1_0 a1_1 l1_2 a1_3 a1_4 l1_5 = some r) ∧ Aside0 (kq ≤ kj2) ∧ Aside0 (w'.heap[ga]? = some (.cells #[.int .i64 a0_0, .string a0_1, (.slice A0_2 l0_2.length c0_2), .int .i64 a0_3, .int .i64 a0_4, (.slice A0_5 l0_5.length c0_5)] 29 (0, 0))) ∧ Aside0 (w'.heap[gc]? = some (.cells #[.int .i64 a1_0, .string a1_1, (.slice A1_2 l1_2.length c1_2), .int .i64 a1_3, .int .i64 a1_4, (.slice A1_5 l1_5.length c1_5)] 29 (0, 0))) ∧ Aside0 (Below w.heap.size w w'))
    case atStart => exact ⟨(0), (by first | rfl | (simp; done) | (simp [*]; done)), H', ⟨Nat.le_refl _⟩, ⟨by (with_reducible repeat (first | refine ja ?_ _ | refine jb ?_ | refine jc ?_ _)); exact qq1.out⟩, ⟨by (with_reducible repeat (first | refine ja ?_ _ | refine jb ?_ | refine jc ?_ _)); exact qo1.out⟩, ⟨by repeat (first | (with_reducible first | exact HB.out | apply js | apply jt | apply ju | refine jj ?_ qn1.out | refine jj ?_ qp1.out) | exact HB.out)⟩⟩
    case round =>
     clear H'
     try clear c1
     try clear c2
     try clear p2
     try clear c6
     try clear c6b0
     try clear c6b1
     try clear c7
     try clear c7b0
     try clear c7b1
     try clear c8
     try clear c8b0
     try clear c8b1
     try clear c9
     try clear c9b0
     try clear c9b1
     try clear c10
     try clear c10b0
     try clear c10b1
     try clear c10b2
     try clear c11
     try clear c14
     try clear c17
     try clear c18
     try clear c20
     try clear c23
     try clear c26
     try clear c29
     try clear hcz12_0
     try clear hcz12_1
     try clear hcz12_2
     try clear hcz12_3
     try clear hcz12_4
     try clear hcz12_5
     try clear hcz13_0
     try clear hcz13_1
     try clear hcz13_2
     try clear hcz13_3
     try clear hcz13_4
     try clear hcz13_5
     try clear hcz15_0
     try clear hcz15_1
     try clear hcz15_2
     try clear hcz15_3
     try clear hcz15_4
     try clear hcz15_5
     try clear hcz16_0
     try clear hcz16_1
     try clear hcz16_2
     try clear hcz16_3
     try clear hcz16_4
     try clear hcz16_5
     try clear hcz18_0
     try clear hcz18_1
     try clear hcz18_2
     try clear hcz18_3
     try clear hcz18_4
     try clear hcz18_5
     try clear hcz19_0
     try clear hcz19_1
     try clear hcz19_2
     try clear hcz19_3
     try clear hcz19_4
     try clear hcz19_5
     try clear hcz21_0
     try clear hcz21_1
     try clear hcz21_2
     try clear hcz21_3
     try clear hcz21_4
     try clear hcz21_5
     try clear hcz22_0
     try clear hcz22_1
     try clear hcz22_2
     try clear hcz22_3
     try clear hcz22_4
     try clear hcz22_5
     try clear hcz24_0
     try clear hcz24_1
     try clear hcz24_2
     try clear hcz24_3
     try clear hcz24_4
     try clear hcz24_5
     try clear hcz25_0
     try clear hcz25_1
     try clear hcz25_2
     try clear hcz25_3
     try clear hcz25_4
     try clear hcz25_5
     try clear hcz27_0
     try clear hcz27_1
     try clear hcz27_2
     try clear hcz27_3
     try clear hcz27_4
     try clear hcz27_5
     try clear hcz28_0
     try clear hcz28_1
     try clear hcz28_2
     try clear hcz28_3
     try clear hcz28_4
     try clear hcz28_5
     try clear hfz12_0
     try clear hfz12_1
     try clear hfz12_2
     try clear hfz12_3
     try clear hfz12_4
     try clear hfz12_5
     try clear hfz13_0
     try clear hfz13_1
     try clear hfz13_2
     try clear hfz13_3
     try clear hfz13_4
     try clear hfz13_5
     try clear hfz15_0
     try clear hfz15_1
     try clear hfz15_2
     try clear hfz15_3
     try clear hfz15_4
     try clear hfz15_5
     try clear hfz16_0
     try clear hfz16_1
     try clear hfz16_2
     try clear hfz16_3
     try clear hfz16_4
     try clear hfz16_5
     try clear hfz18_0
     try clear hfz18_1
     try clear hfz18_2
     try clear hfz18_3
     try clear hfz18_4
     try clear hfz18_5
     try clear hfz19_0
     try clear hfz19_1
     try clear hfz19_2
     try clear hfz19_3
     try clear hfz19_4
     try clear hfz19_5
     try clear hfz21_0
     try clear hfz21_1
     try clear hfz21_2
     try clear hfz21_3
     try clear hfz21_4
     try clear hfz21_5
     try clear hfz22_0
     try clear hfz22_1
     try clear hfz22_2
     try clear hfz22_3
     try clear hfz22_4
     try clear hfz22_5
     try clear hfz24_0
     try clear hfz24_1
     try clear hfz24_2
     try clear hfz24_3
     try clear hfz24_4
     try clear hfz24_5
     try clear hfz25_0
     try clear hfz25_1
     try clear hfz25_2
     try clear hfz25_3
     try clear hfz25_4
     try clear hfz25_5
     try clear hfz27_0
     try clear hfz27_1
     try clear hfz27_2
     try clear hfz27_3
     try clear hfz27_4
     try clear hfz27_5
     try clear hfz28_0
     try clear hfz28_1
     try clear hfz28_2
     try clear hfz28_3
     try clear hfz28_4
     try clear hfz28_5
     try clear p2
     obtain ⟨x5_2, rfl, HA, HK2, qq1, qo1, HB⟩ := hrel
     cases gk with
     | zero => exact absurd HA.out (by simp [spec_l4Same.l0])
     | succ k2 =>
      have H := HA.out
      clear HA
      simp only [spec_l4Same.l0] at H
      by_cases c30 : x5_2 < (l0_2.length : Int)
      ·rw [if_pos c30] at H
       have c30b0 : decide (x5_2 < (l0_2.length : Int)) = true := decide_eq_true c30
       clear c30
       by_cases c31 : 0 ≤ x5_2
       ·rw [if_pos c31] at H
        have c31b0 : decide (0 ≤ x5_2) = true := decide_eq_true c31
        clear c31
        by_cases c32 : x5_2 < (l1_2.length : Int)
        ·rw [if_pos c32] at H
         have c32b0 : decide (x5_2 < (l1_2.length : Int)) = true := decide_eq_true c32
         clear c32
         replace H := Option.bind_eq_some_iff.mp H
         obtain ⟨t105, A330, H⟩ := H
         replace H : (if t105 = true then (spec_l4Same.l0 k2 (wrap64 (x5_2 + 1)) a0_0 a0_1 l0_2 a0_3 a0_4 l0_5 a1_0 a1_1 l1_2 a1_3 a1_4 l1_5) else (some false)) = some r := H
         have A33 := Aside0.mk A330
         clear A330
         by_cases c34 : t105 = true
         ·subst c34
          have H1 : (spec_l4Same.l0 k2 (wrap64 (x5_2 + 1)) a0_0 a0_1 l0_2 a0_3 a0_4 l0_5 a1_0 a1_1 l1_2 a1_3 a1_4 l1_5) = some r := by rw [if_pos rfl] at H; exact H
          clear H
          have H := H1
          clear H1
          have H' := Aside0.mk H
          clear H
          have hnb35 := qa.out
          have hnc35 := qb.out
          have hcz36_0 : wr.cell? ⟨ga, 0, none⟩ = some (.int .i64 a0_0) := (jh qq1.out 0).trans rfl
          have hcz36_1 : wr.cell? ⟨ga, 1, none⟩ = some (.string a0_1) := (jh qq1.out 1).trans rfl
          have hcz36_2 : wr.cell? ⟨ga, 2, none⟩ = some (.slice A0_2 l0_2.length c0_2) := (jh qq1.out 2).trans rfl
          have hcz36_3 : wr.cell? ⟨ga, 3, none⟩ = some (.int .i64 a0_3) := (jh qq1.out 3).trans rfl
          have hcz36_4 : wr.cell? ⟨ga, 4, none⟩ = some (.int .i64 a0_4) := (jh qq1.out 4).trans rfl
          have hcz36_5 : wr.cell? ⟨ga, 5, none⟩ = some (.slice A0_5 l0_5.length c0_5) := (jh qq1.out 5).trans rfl
          have hfz36_0 := ji qq1.out 0
          have hfz36_1 := ji qq1.out 1
          have hfz36_2 := ji qq1.out 2
          have hfz36_3 := ji qq1.out 3
          have hfz36_4 := ji qq1.out 4
          have hfz36_5 := ji qq1.out 5
          try go_wp2
          have n0_ := Aside0.mk (jb qq1.out)
          have n1_ := Aside0.mk (jb qo1.out)
          have n2_ := Aside0.mk (ju HB.out)
          clear qq1
          clear qo1
          clear HB
          have qq1 := n0_
          have qo1 := n1_
          have HB := n2_
          clear n0_ n1_ n2_
          have p103 : 0 ≤ (x5_2 : Int) := of_decide_eq_true (by first | (with_reducible assumption) | assumption)
          have q103 : x5_2 < (l0_2.length : Int) := of_decide_eq_true (by first | (with_reducible assumption) | assumption)
          obtain ⟨ad103, A103_2, c103_2, A103_5, c103_5, e103, qb1, qd1, qo, qs, qh, qi, hl103_2, hi103_2, hl103_5, hi103_5⟩ := at_T29 HR0_2.out x5_2 p103 q103
          have hw103_5 := qi
          have hw103_4 := qh
          have hw103_3 := qs
          have hw103_2 := qo
          have hw103_1 := qd1
          have hw103_0 := qb1
          cases e103
          replace qb1 := (HB.out.cell (World.block_lt_of_cell? w _ qb1)).trans qb1
          replace qd1 := (HB.out.cell (World.block_lt_of_cell? w _ qd1)).trans qd1
          replace qo := (HB.out.cell (World.block_lt_of_cell? w _ qo)).trans qo
          replace qs := (HB.out.cell (World.block_lt_of_cell? w _ qs)).trans qs
          replace qh := (HB.out.cell (World.block_lt_of_cell? w _ qh)).trans qh
          replace qi := (HB.out.cell (World.block_lt_of_cell? w _ qi)).trans qi
          have HR103_2 := Aside0.mk hi103_2
          have HC103_2 := Aside0.mk hl103_2
          clear hi103_2 hl103_2
          have HR103_5 := Aside0.mk hi103_5
          have HC103_5 := Aside0.mk hl103_5
          clear hi103_5 hl103_5
          replace p103 := eq_true p103
          replace q103 := eq_true q103
          have p104 : 0 ≤ (x5_2 : Int) := of_decide_eq_true (by first | (with_reducible assumption) | assumption)
          have q104 : x5_2 < (l1_2.length : Int) := of_decide_eq_true (by first | (with_reducible assumption) | assumption)
          obtain ⟨ad104, A104_2, c104_2, A104_5, c104_5, e104, qw, qd, qe, qi1, qy, qn, hl104_2, hi104_2, hl104_5, hi104_5⟩ := at_T29 HR1_2.out x5_2 p104 q104
          have hw104_5 := qn
          have hw104_4 := qy
          have hw104_3 := qi1
          have hw104_2 := qe
          have hw104_1 := qd
          have hw104_0 := qw
          cases e104
          replace qw := (HB.out.cell (World.block_lt_of_cell? w _ qw)).trans qw
          replace qd := (HB.out.cell (World.block_lt_of_cell? w _ qd)).trans qd
          replace qe := (HB.out.cell (World.block_lt_of_cell? w _ qe)).trans qe
          replace qi1 := (HB.out.cell (World.block_lt_of_cell? w _ qi1)).trans qi1
          replace qy := (HB.out.cell (World.block_lt_of_cell? w _ qy)).trans qy
          replace qn := (HB.out.cell (World.block_lt_of_cell? w _ qn)).trans qn
          have HR104_2 := Aside0.mk hi104_2
          have HC104_2 := Aside0.mk hl104_2
          clear hi104_2 hl104_2
          have HR104_5 := Aside0.mk hi104_5
          have HC104_5 := Aside0.mk hl104_5
          clear hi104_5 hl104_5
          replace p104 := eq_true p104
          replace q104 := eq_true q104
          refine start_ (n := 12) (S := fun w' => w'.cell? ⟨ga, 0, none⟩ = some (.int .i64 a0_0) ∧ w'.cell? ⟨ga, 1, none⟩ = some (.string a0_1) ∧ w'.cell? ⟨ga, 2, none⟩ = some (.slice (some ad103) l0_2.length c0_2) ∧ w'.cell? ⟨ga, 3, none⟩ = some (.int .i64 a0_3) ∧ w'.cell? ⟨ga, 4, none⟩ = some (.int .i64 a0_4) ∧ w'.cell? ⟨ga, 5, none⟩ = some (.slice A0_5 l0_5.length c0_5) ∧ w'.cell? ⟨gc, 0, none⟩ = some (.int .i64 a1_0) ∧ w'.cell? ⟨gc, 1, none⟩ = some (.string a1_1) ∧ w'.cell? ⟨gc, 2, none⟩ = some (.slice (some ad104) l1_2.length c1_2) ∧ w'.cell? ⟨gc, 3, none⟩ = some (.int .i64 a1_3) ∧ w'.cell? ⟨gc, 4, none⟩ = some (.int .i64 a1_4) ∧ w'.cell? ⟨gc, 5, none⟩ = some (.slice A1_5 l1_5.length c1_5) ∧ w'.cell? (ad103.add ((x5_2).toNat * 6)) = some (.int .i64 ((rd_T29 l0_2 x5_2).f0)) ∧ w'.cell? ⟨(ad103.add ((x5_2).toNat * 6)).block, (ad103.add ((x5_2).toNat * 6)).off + 1, none⟩ = some (.string ((rd_T29 l0_2 x5_2).f1)) ∧ w'.cell? ⟨(ad103.add ((x5_2).toNat * 6)).block, (ad103.add ((x5_2).toNat * 6)).off + 2, none⟩ = some (.slice A103_2 ((rd_T29 l0_2 x5_2).f2).length c103_2) ∧ w'.cell? ⟨(ad103.add ((x5_2).toNat * 6)).block, (ad103.add ((x5_2).toNat * 6)).off + 3, none⟩ = some (.int .i64 ((rd_T29 l0_2 x5_2).f3)) ∧ w'.cell? ⟨(ad103.add ((x5_2).toNat * 6)).block, (ad103.add ((x5_2).toNat * 6)).off + 4, none⟩ = some (.int .i64 ((rd_T29 l0_2 x5_2).f4)) ∧ w'.cell? ⟨(ad103.add ((x5_2).toNat * 6)).block, (ad103.add ((x5_2).toNat * 6)).off + 5, none⟩ = some (.slice A103_5 ((rd_T29 l0_2 x5_2).f5).length c103_5) ∧ w'.cell? (ad104.add ((x5_2).toNat * 6)) = some (.int .i64 ((rd_T29 l1_2 x5_2).f0)) ∧ w'.cell? ⟨(ad104.add ((x5_2).toNat * 6)).block, (ad104.add ((x5_2).toNat * 6)).off + 1, none⟩ = some (.string ((rd_T29 l1_2 x5_2).f1)) ∧ w'.cell? ⟨(ad104.add ((x5_2).toNat * 6)).block, (ad104.add ((x5_2).toNat * 6)).off + 2, none⟩ = some (.slice A104_2 ((rd_T29 l1_2 x5_2).f2).length c104_2) ∧ w'.cell? ⟨(ad104.add ((x5_2).toNat * 6)).block, (ad104.add ((x5_2).toNat * 6)).off + 3, none⟩ = some (.int .i64 ((rd_T29 l1_2 x5_2).f3)) ∧ w'.cell? ⟨(ad104.add ((x5_2).toNat * 6)).block, (ad104.add ((x5_2).toNat * 6)).off + 4, none⟩ = some (.int .i64 ((rd_T29 l1_2 x5_2).f4)) ∧ w'.cell? ⟨(ad104.add ((x5_2).toNat * 6)).block, (ad104.add ((x5_2).toNat * 6)).off + 5, none⟩ = some (.slice A104_5 ((rd_T29 l1_2 x5_2).f5).length c104_5)) (ds := []) #[false, false, false, false, false, false, false, false, false, false, false, false] (by kernel_rfl) rfl rfl ⟨(jh qq1.out 0).trans rfl, (jh qq1.out 1).trans rfl, (jh qq1.out 2).trans rfl, (jh qq1.out 3).trans rfl, (jh qq1.out 4).trans rfl, (jh qq1.out 5).trans rfl, (jh qo1.out 0).trans rfl, (jh qo1.out 1).trans rfl, (jh qo1.out 2).trans rfl, (jh qo1.out 3).trans rfl, (jh qo1.out 4).trans rfl, (jh qo1.out 5).trans rfl, ((HB.out.cell (World.block_lt_of_cell? w _ hw103_0)).trans hw103_0), ((HB.out.cell (World.block_lt_of_cell? w _ hw103_1)).trans hw103_1), ((HB.out.cell (World.block_lt_of_cell? w _ hw103_2)).trans hw103_2), ((HB.out.cell (World.block_lt_of_cell? w _ hw103_3)).trans hw103_3), ((HB.out.cell (World.block_lt_of_cell? w _ hw103_4)).trans hw103_4), ((HB.out.cell (World.block_lt_of_cell? w _ hw103_5)).trans hw103_5), ((HB.out.cell (World.block_lt_of_cell? w _ hw104_0)).trans hw104_0), ((HB.out.cell (World.block_lt_of_cell? w _ hw104_1)).trans hw104_1), ((HB.out.cell (World.block_lt_of_cell? w _ hw104_2)).trans hw104_2), ((HB.out.cell (World.block_lt_of_cell? w _ hw104_3)).trans hw104_3), ((HB.out.cell (World.block_lt_of_cell? w _ hw104_4)).trans hw104_4), ((HB.out.cell (World.block_lt_of_cell? w _ hw104_5)).trans hw104_5)⟩ (fun hHeld => ?_); refine with_tabW spec_l4Same.tab6 spec_l4Same.bits6 (fun HT_ HW_ => ?_)
          generalize wr.drew = w37 at qq1 qo1 HB HR103_2 HR103_5 HR104_2 HR104_5 qb1 qd1 qo qs qh qi qw qd qe qi1 qy qn hHeld ⊢
          refine pure_ (i := 0) (N := some 58) (v := ?_) (a' := ?_) #[true, false, false, false, false, false, false, false, false, false, false, false] rfl rfl (any_of HT_.out (by kernel_rfl)) (fun _ _ _ h => h) (Or.inl ⟨by rfl, ?_⟩) ?_ ?_
          rotate_left
          ·intro w'
           go_simp
           with_reducible rfl
          rotate_left
          ·simp only [Act.put, List.setIfInBounds_toArray, List.set_cons_zero, List.set_cons_succ, i64_w, i32_w]
           rfl
          refine pure_ (i := 2) (N := some 60) (v := ?_) (a' := ?_) #[true, false, true, false, false, false, false, false, false, false, false, false] rfl rfl (any_of HT_.out (by kernel_rfl)) (fun _ _ _ h => h) (Or.inl ⟨by rfl, ?_⟩) ?_ ?_
          rotate_left
          ·intro w'
           go_simp
           with_reducible rfl
          rotate_left
          ·simp only [Act.put, List.setIfInBounds_toArray, List.set_cons_zero, List.set_cons_succ, i64_w, i32_w]
           rfl
          refine pure_ (i := 5) (N := some 63) (v := ?_) (a' := ?_) #[true, false, true, false, false, true, false, false, false, false, false, false] rfl rfl (any_of HT_.out (by kernel_rfl)) (fun _ _ _ h => h) (Or.inl ⟨by rfl, ?_⟩) ?_ ?_
          rotate_left
          ·intro w'
           go_simp
           with_reducible rfl
          rotate_left
          ·simp only [Act.put, List.setIfInBounds_toArray, List.set_cons_zero, List.set_cons_succ, i64_w, i32_w]
           rfl
          refine pure_ (i := 7) (N := some 65) (v := ?_) (a' := ?_) #[true, false, true, false, false, true, false, true, false, false, false, false] rfl rfl (any_of HT_.out (by kernel_rfl)) (fun _ _ _ h => h) (Or.inl ⟨by rfl, ?_⟩) ?_ ?_
          rotate_left
          ·intro w'
           go_simp
           with_reducible rfl
          rotate_left
          ·simp only [Act.put, List.setIfInBounds_toArray, List.set_cons_zero, List.set_cons_succ, i64_w, i32_w]
           rfl
          refine take_ (i := 1) (N := some 59) (v := ?_) (a' := ?_) #[true, true, true, false, false, true, false, true, false, false, false, false] rfl rfl (take_ofW HT_.out HW_.out (by kernel_rfl)) (fun _ _ _ h => h) (Or.inl ⟨by rfl, ?_⟩) hHeld ?_ ?_
          rotate_left
          ·rintro w' ⟨s0, s1, s2, s3, s4, s5, s6, s7, s8, s9, s10, s11, s12, s13, s14, s15, s16, s17, s18, s19, s20, s21, s22, s23⟩
           go_simp
           with_reducible rfl
          rotate_left
          ·simp only [Act.put, List.setIfInBounds_toArray, List.set_cons_zero, List.set_cons_succ, i64_w, i32_w]
           rfl
          refine pure_ (i := 3) (N := some 61) (v := ?_) (a' := ?_) #[true, true, true, true, false, true, false, true, false, false, false, false] rfl rfl (any_of HT_.out (by kernel_rfl)) (fun _ _ _ h => h) (Or.inl ⟨by rfl, ?_⟩) ?_ ?_
          rotate_left
          ·intro w'
           go_simp
           with_reducible rfl
          rotate_left
          ·simp only [Act.put, List.setIfInBounds_toArray, List.set_cons_zero, List.set_cons_succ, i64_w, i32_w]
           rfl
          refine take_ (i := 4) (N := some 62) (v := ?_) (a' := ?_) #[true, true, true, true, true, true, false, true, false, false, false, false] rfl rfl (take_ofW HT_.out HW_.out (by kernel_rfl)) (fun _ _ _ h => h) (Or.inl ⟨by rfl, ?_⟩) hHeld ?_ ?_
          rotate_left
          ·rintro w' ⟨s0, s1, s2, s3, s4, s5, s6, s7, s8, s9, s10, s11, s12, s13, s14, s15, s16, s17, s18, s19, s20, s21, s22, s23⟩
           go_simp
           with_reducible rfl
          rotate_left
          ·simp only [Act.put, List.setIfInBounds_toArray, List.set_cons_zero, List.set_cons_succ, i64_w, i32_w]
           rfl
          refine take_ (i := 6) (N := some 64) (v := ?_) (a' := ?_) #[true, true, true, true, true, true, true, true, false, false, false, false] rfl rfl (take_ofW HT_.out HW_.out (by kernel_rfl)) (fun _ _ _ h => h) (Or.inl ⟨by rfl, ?_⟩) hHeld ?_ ?_
          rotate_left
          ·rintro w' ⟨s0, s1, s2, s3, s4, s5, s6, s7, s8, s9, s10, s11, s12, s13, s14, s15, s16, s17, s18, s19, s20, s21, s22, s23⟩
           go_simp
           with_reducible rfl
          rotate_left
          ·simp only [Act.put, List.setIfInBounds_toArray, List.set_cons_zero, List.set_cons_succ, i64_w, i32_w]
           rfl
          refine pure_ (i := 8) (N := some 66) (v := ?_) (a' := ?_) #[true, true, true, true, true, true, true, true, true, false, false, false] rfl rfl (any_of HT_.out (by kernel_rfl)) (fun _ _ _ h => h) (Or.inl ⟨by rfl, ?_⟩) ?_ ?_
          rotate_left
          ·intro w'
           go_simp
           with_reducible rfl
          rotate_left
          ·simp only [Act.put, List.setIfInBounds_toArray, List.set_cons_zero, List.set_cons_succ, i64_w, i32_w]
           rfl
          refine take_ (i := 9) (N := some 67) (v := ?_) (a' := ?_) #[true, true, true, true, true, true, true, true, true, true, false, false] rfl rfl (take_ofW HT_.out HW_.out (by kernel_rfl)) (fun _ _ _ h => h) (Or.inl ⟨by rfl, ?_⟩) hHeld ?_ ?_
          rotate_left
          ·rintro w' ⟨s0, s1, s2, s3, s4, s5, s6, s7, s8, s9, s10, s11, s12, s13, s14, s15, s16, s17, s18, s19, s20, s21, s22, s23⟩
           go_simp
           with_reducible rfl
          rotate_left
          ·simp only [Act.put, List.setIfInBounds_toArray, List.set_cons_zero, List.set_cons_succ, i64_w, i32_w]
           rfl
          refine one_ (i := 10) (N := some 68) #[true, true, true, true, true, true, true, true, true, true, true, false] rfl rfl (one_of HT_.out (by kernel_rfl)) (by decide) (fun K hK => ?_)
          refine goes_ Try.func18 (by kernel_rfl) rfl #[.agg #[.int .i64 ((rd_T29 l0_2 x5_2).f0), .string ((rd_T29 l0_2 x5_2).f1), .slice A103_2 ((rd_T29 l0_2 x5_2).f2).length c103_2, .int .i64 ((rd_T29 l0_2 x5_2).f3), .int .i64 ((rd_T29 l0_2 x5_2).f4), .slice A103_5 ((rd_T29 l0_2 x5_2).f5).length c103_5], .agg #[.int .i64 ((rd_T29 l1_2 x5_2).f0), .string ((rd_T29 l1_2 x5_2).f1), .slice A104_2 ((rd_T29 l1_2 x5_2).f2).length c104_2, .int .i64 ((rd_T29 l1_2 x5_2).f3), .int .i64 ((rd_T29 l1_2 x5_2).f4), .slice A104_5 ((rd_T29 l1_2 x5_2).f5).length c104_5]] (by rfl) rfl rfl (by (try simp only [List.map_toArray, List.map_cons, List.map_nil]); first | done | rfl | (simp only [List.length_drop, List.length_take]; rfl)) ?_
          with_reducible refine (ih k2 (by have := HJ2.out; have := HK2.out; omega) ((rd_T29 l0_2 x5_2).f0) ((rd_T29 l0_2 x5_2).f1) _ _ ((rd_T29 l0_2 x5_2).f2) ((rd_T29 l0_2 x5_2).f3) ((rd_T29 l0_2 x5_2).f4) _ _ ((rd_T29 l0_2 x5_2).f5) ((rd_T29 l1_2 x5_2).f0) ((rd_T29 l1_2 x5_2).f1) _ _ ((rd_T29 l1_2 x5_2).f2) ((rd_T29 l1_2 x5_2).f3) ((rd_T29 l1_2 x5_2).f4) _ _ ((rd_T29 l1_2 x5_2).f5) true _ ?side1 ?side2 ?side3 ?side4 ?side5 ?side6 ?side7 ?side8 A33.out).mono ?_
          (case side1 => repeat (first | exact (Kd.C_below HR103_2.out HB.out) | (with_reducible refine Kd.C_alloc ?_ _) | (with_reducible refine Kd.C_drewN ?_ _) | (with_reducible refine Kd.C_drew ?_)))
          (case side2 => exact HC103_2.out)
          (case side3 => repeat (first | exact (Kd.C_below HR103_5.out HB.out) | (with_reducible refine Kd.C_alloc ?_ _) | (with_reducible refine Kd.C_drewN ?_ _) | (with_reducible refine Kd.C_drew ?_)))
          (case side4 => exact HC103_5.out)
          (case side5 => repeat (first | exact (Kd.C_below HR104_2.out HB.out) | (with_reducible refine Kd.C_alloc ?_ _) | (with_reducible refine Kd.C_drewN ?_ _) | (with_reducible refine Kd.C_drew ?_)))
          (case side6 => exact HC104_2.out)
          (case side7 => repeat (first | exact (Kd.C_below HR104_5.out HB.out) | (with_reducible refine Kd.C_alloc ?_ _) | (with_reducible refine Kd.C_drewN ?_ _) | (with_reducible refine Kd.C_drew ?_)))
          (case side8 => exact HC104_5.out)
          rintro e w38 ⟨rfl, hb⟩
          refine ⟨_, rfl, ?_⟩
          have n0_ := Aside0.mk (jl (g := ga) (o := .cells #[.int .i64 a0_0, .string a0_1, .slice (some ad103) l0_2.length c0_2, .int .i64 a0_3, .int .i64 a0_4, .slice A0_5 l0_5.length c0_5] 29 (0, 0)) (by (with_reducible repeat (first | refine ja ?_ _ | refine jb ?_ | refine jc ?_ _)); exact qq1.out) hb)
          have n1_ := Aside0.mk (jl (g := gc) (o := .cells #[.int .i64 a1_0, .string a1_1, .slice (some ad104) l1_2.length c1_2, .int .i64 a1_3, .int .i64 a1_4, .slice A1_5 l1_5.length c1_5] 29 (0, 0)) (by (with_reducible repeat (first | refine ja ?_ _ | refine jb ?_ | refine jc ?_ _)); exact qo1.out) hb)
          have n2_ := Aside0.mk (below_step (by repeat (first | (with_reducible first | exact HB.out | apply js | apply jt | apply ju | refine jj ?_ qn1.out | refine jj ?_ qp1.out) | exact HB.out)) hb)
          clear qq1
          clear qo1
          clear HB
          have qq1 := n0_
          have qo1 := n1_
          have HB := n2_
          clear n0_ n1_ n2_
          (try clear hb)
          (try clear hb2)
          (try clear hk)
          (try clear hi)
          refine hK.out _ _ ⟨(jh qq1.out 0).trans rfl, (jh qq1.out 1).trans rfl, (jh qq1.out 2).trans rfl, (jh qq1.out 3).trans rfl, (jh qq1.out 4).trans rfl, (jh qq1.out 5).trans rfl, (jh qo1.out 0).trans rfl, (jh qo1.out 1).trans rfl, (jh qo1.out 2).trans rfl, (jh qo1.out 3).trans rfl, (jh qo1.out 4).trans rfl, (jh qo1.out 5).trans rfl, ((HB.out.cell (World.block_lt_of_cell? w _ hw103_0)).trans hw103_0), ((HB.out.cell (World.block_lt_of_cell? w _ hw103_1)).trans hw103_1), ((HB.out.cell (World.block_lt_of_cell? w _ hw103_2)).trans hw103_2), ((HB.out.cell (World.block_lt_of_cell? w _ hw103_3)).trans hw103_3), ((HB.out.cell (World.block_lt_of_cell? w _ hw103_4)).trans hw103_4), ((HB.out.cell (World.block_lt_of_cell? w _ hw103_5)).trans hw103_5), ((HB.out.cell (World.block_lt_of_cell? w _ hw104_0)).trans hw104_0), ((HB.out.cell (World.block_lt_of_cell? w _ hw104_1)).trans hw104_1), ((HB.out.cell (World.block_lt_of_cell? w _ hw104_2)).trans hw104_2), ((HB.out.cell (World.block_lt_of_cell? w _ hw104_3)).trans hw104_3), ((HB.out.cell (World.block_lt_of_cell? w _ hw104_4)).trans hw104_4), ((HB.out.cell (World.block_lt_of_cell? w _ hw104_5)).trans hw104_5)⟩ (fun hHeld => ?_)
          clear hK K
          refine norm_ (a' := ?_) ?_ ?_
          rotate_left
          ·show Act.put _ (some 68) _ = _
           simp only [Act.put, List.setIfInBounds_toArray, List.set_cons_zero, List.set_cons_succ, i64_w, i32_w]
           rfl
          refine pure_ (i := 11) (N := some 69) (v := ?_) (a' := ?_) #[true, true, true, true, true, true, true, true, true, true, true, true] rfl rfl (any_of HT_.out (by kernel_rfl)) (fun _ _ _ h => h) (Or.inl ⟨by rfl, ?_⟩) ?_ ?_
          rotate_left
          ·intro w'
           go_simp
           with_reducible rfl
          rotate_left
          ·simp only [Act.put, List.setIfInBounds_toArray, List.set_cons_zero, List.set_cons_succ, i64_w, i32_w]
           rfl
          refine done_ (done_of HT_.out (by kernel_rfl)) ?_
          try go_wp2
          go_roundg k2
          case measure => have := HJ2.out; have := HK2.out; omega
          case rel => exact ⟨(wrap64 (x5_2 + 1)), (by first | rfl | (simp; done) | (simp [*]; done)), H', ⟨by have := HJ2.out; have := HK2.out; omega⟩, ⟨by (with_reducible repeat (first | refine ja ?_ _ | refine jb ?_ | refine jc ?_ _)); exact qq1.out⟩, ⟨by (with_reducible repeat (first | refine ja ?_ _ | refine jb ?_ | refine jc ?_ _)); exact qo1.out⟩, ⟨by repeat (first | (with_reducible first | exact HB.out | apply js | apply jt | apply ju | refine jj ?_ qn1.out | refine jj ?_ qp1.out) | exact HB.out)⟩⟩
         ·replace c34 := Bool.eq_false_iff.mpr c34
          subst c34
          have H1 : (some false) = some r := by rw [if_neg (show ¬ (false = true) by decide)] at H; exact H
          clear H
          have H := H1
          clear H1
          obtain rfl := Option.some.inj H
          have hnb39 := qa.out
          have hnc39 := qb.out
          have hcz40_0 : wr.cell? ⟨ga, 0, none⟩ = some (.int .i64 a0_0) := (jh qq1.out 0).trans rfl
          have hcz40_1 : wr.cell? ⟨ga, 1, none⟩ = some (.string a0_1) := (jh qq1.out 1).trans rfl
          have hcz40_2 : wr.cell? ⟨ga, 2, none⟩ = some (.slice A0_2 l0_2.length c0_2) := (jh qq1.out 2).trans rfl
          have hcz40_3 : wr.cell? ⟨ga, 3, none⟩ = some (.int .i64 a0_3) := (jh qq1.out 3).trans rfl
          have hcz40_4 : wr.cell? ⟨ga, 4, none⟩ = some (.int .i64 a0_4) := (jh qq1.out 4).trans rfl
          have hcz40_5 : wr.cell? ⟨ga, 5, none⟩ = some (.slice A0_5 l0_5.length c0_5) := (jh qq1.out 5).trans rfl
          have hfz40_0 := ji qq1.out 0
          have hfz40_1 := ji qq1.out 1
          have hfz40_2 := ji qq1.out 2
          have hfz40_3 := ji qq1.out 3
          have hfz40_4 := ji qq1.out 4
          have hfz40_5 := ji qq1.out 5
          try go_wp2
          have n0_ := Aside0.mk (jb qq1.out)
          have n1_ := Aside0.mk (jb qo1.out)
          have n2_ := Aside0.mk (ju HB.out)
          clear qq1
          clear qo1
          clear HB
          have qq1 := n0_
          have qo1 := n1_
          have HB := n2_
          clear n0_ n1_ n2_
          have p103 : 0 ≤ (x5_2 : Int) := of_decide_eq_true (by first | (with_reducible assumption) | assumption)
          have q103 : x5_2 < (l0_2.length : Int) := of_decide_eq_true (by first | (with_reducible assumption) | assumption)
          obtain ⟨ad103, A103_2, c103_2, A103_5, c103_5, e103, qb1, qd1, qo, qs, qh, qi, hl103_2, hi103_2, hl103_5, hi103_5⟩ := at_T29 HR0_2.out x5_2 p103 q103
          have hw103_5 := qi
          have hw103_4 := qh
          have hw103_3 := qs
          have hw103_2 := qo
          have hw103_1 := qd1
          have hw103_0 := qb1
          cases e103
          replace qb1 := (HB.out.cell (World.block_lt_of_cell? w _ qb1)).trans qb1
          replace qd1 := (HB.out.cell (World.block_lt_of_cell? w _ qd1)).trans qd1
          replace qo := (HB.out.cell (World.block_lt_of_cell? w _ qo)).trans qo
          replace qs := (HB.out.cell (World.block_lt_of_cell? w _ qs)).trans qs
          replace qh := (HB.out.cell (World.block_lt_of_cell? w _ qh)).trans qh
          replace qi := (HB.out.cell (World.block_lt_of_cell? w _ qi)).trans qi
          have HR103_2 := Aside0.mk hi103_2
          have HC103_2 := Aside0.mk hl103_2
          clear hi103_2 hl103_2
          have HR103_5 := Aside0.mk hi103_5
          have HC103_5 := Aside0.mk hl103_5
          clear hi103_5 hl103_5
          replace p103 := eq_true p103
          replace q103 := eq_true q103
          have p104 : 0 ≤ (x5_2 : Int) := of_decide_eq_true (by first | (with_reducible assumption) | assumption)
          have q104 : x5_2 < (l1_2.length : Int) := of_decide_eq_true (by first | (with_reducible assumption) | assumption)
          obtain ⟨ad104, A104_2, c104_2, A104_5, c104_5, e104, qw, qd, qe, qi1, qy, qn, hl104_2, hi104_2, hl104_5, hi104_5⟩ := at_T29 HR1_2.out x5_2 p104 q104
          have hw104_5 := qn
          have hw104_4 := qy
          have hw104_3 := qi1
          have hw104_2 := qe
          have hw104_1 := qd
          have hw104_0 := qw
          cases e104
          replace qw := (HB.out.cell (World.block_lt_of_cell? w _ qw)).trans qw
          replace qd := (HB.out.cell (World.block_lt_of_cell? w _ qd)).trans qd
          replace qe := (HB.out.cell (World.block_lt_of_cell? w _ qe)).trans qe
          replace qi1 := (HB.out.cell (World.block_lt_of_cell? w _ qi1)).trans qi1
          replace qy := (HB.out.cell (World.block_lt_of_cell? w _ qy)).trans qy
          replace qn := (HB.out.cell (World.block_lt_of_cell? w _ qn)).trans qn
          have HR104_2 := Aside0.mk hi104_2
          have HC104_2 := Aside0.mk hl104_2
          clear hi104_2 hl104_2
          have HR104_5 := Aside0.mk hi104_5
          have HC104_5 := Aside0.mk hl104_5
          clear hi104_5 hl104_5
          replace p104 := eq_true p104
          replace q104 := eq_true q104
          refine start_ (n := 12) (S := fun w' => w'.cell? ⟨ga, 0, none⟩ = some (.int .i64 a0_0) ∧ w'.cell? ⟨ga, 1, none⟩ = some (.string a0_1) ∧ w'.cell? ⟨ga, 2, none⟩ = some (.slice (some ad103) l0_2.length c0_2) ∧ w'.cell? ⟨ga, 3, none⟩ = some (.int .i64 a0_3) ∧ w'.cell? ⟨ga, 4, none⟩ = some (.int .i64 a0_4) ∧ w'.cell? ⟨ga, 5, none⟩ = some (.slice A0_5 l0_5.length c0_5) ∧ w'.cell? ⟨gc, 0, none⟩ = some (.int .i64 a1_0) ∧ w'.cell? ⟨gc, 1, none⟩ = some (.string a1_1) ∧ w'.cell? ⟨gc, 2, none⟩ = some (.slice (some ad104) l1_2.length c1_2) ∧ w'.cell? ⟨gc, 3, none⟩ = some (.int .i64 a1_3) ∧ w'.cell? ⟨gc, 4, none⟩ = some (.int .i64 a1_4) ∧ w'.cell? ⟨gc, 5, none⟩ = some (.slice A1_5 l1_5.length c1_5) ∧ w'.cell? (ad103.add ((x5_2).toNat * 6)) = some (.int .i64 ((rd_T29 l0_2 x5_2).f0)) ∧ w'.cell? ⟨(ad103.add ((x5_2).toNat * 6)).block, (ad103.add ((x5_2).toNat * 6)).off + 1, none⟩ = some (.string ((rd_T29 l0_2 x5_2).f1)) ∧ w'.cell? ⟨(ad103.add ((x5_2).toNat * 6)).block, (ad103.add ((x5_2).toNat * 6)).off + 2, none⟩ = some (.slice A103_2 ((rd_T29 l0_2 x5_2).f2).length c103_2) ∧ w'.cell? ⟨(ad103.add ((x5_2).toNat * 6)).block, (ad103.add ((x5_2).toNat * 6)).off + 3, none⟩ = some (.int .i64 ((rd_T29 l0_2 x5_2).f3)) ∧ w'.cell? ⟨(ad103.add ((x5_2).toNat * 6)).block, (ad103.add ((x5_2).toNat * 6)).off + 4, none⟩ = some (.int .i64 ((rd_T29 l0_2 x5_2).f4)) ∧ w'.cell? ⟨(ad103.add ((x5_2).toNat * 6)).block, (ad103.add ((x5_2).toNat * 6)).off + 5, none⟩ = some (.slice A103_5 ((rd_T29 l0_2 x5_2).f5).length c103_5) ∧ w'.cell? (ad104.add ((x5_2).toNat * 6)) = some (.int .i64 ((rd_T29 l1_2 x5_2).f0)) ∧ w'.cell? ⟨(ad104.add ((x5_2).toNat * 6)).block, (ad104.add ((x5_2).toNat * 6)).off + 1, none⟩ = some (.string ((rd_T29 l1_2 x5_2).f1)) ∧ w'.cell? ⟨(ad104.add ((x5_2).toNat * 6)).block, (ad104.add ((x5_2).toNat * 6)).off + 2, none⟩ = some (.slice A104_2 ((rd_T29 l1_2 x5_2).f2).length c104_2) ∧ w'.cell? ⟨(ad104.add ((x5_2).toNat * 6)).block, (ad104.add ((x5_2).toNat * 6)).off + 3, none⟩ = some (.int .i64 ((rd_T29 l1_2 x5_2).f3)) ∧ w'.cell? ⟨(ad104.add ((x5_2).toNat * 6)).block, (ad104.add ((x5_2).toNat * 6)).off + 4, none⟩ = some (.int .i64 ((rd_T29 l1_2 x5_2).f4)) ∧ w'.cell? ⟨(ad104.add ((x5_2).toNat * 6)).block, (ad104.add ((x5_2).toNat * 6)).off + 5, none⟩ = some (.slice A104_5 ((rd_T29 l1_2 x5_2).f5).length c104_5)) (ds := []) #[false, false, false, false, false, false, false, false, false, false, false, false] (by kernel_rfl) rfl rfl ⟨(jh qq1.out 0).trans rfl, (jh qq1.out 1).trans rfl, (jh qq1.out 2).trans rfl, (jh qq1.out 3).trans rfl, (jh qq1.out 4).trans rfl, (jh qq1.out 5).trans rfl, (jh qo1.out 0).trans rfl, (jh qo1.out 1).trans rfl, (jh qo1.out 2).trans rfl, (jh qo1.out 3).trans rfl, (jh qo1.out 4).trans rfl, (jh qo1.out 5).trans rfl, ((HB.out.cell (World.block_lt_of_cell? w _ hw103_0)).trans hw103_0), ((HB.out.cell (World.block_lt_of_cell? w _ hw103_1)).trans hw103_1), ((HB.out.cell (World.block_lt_of_cell? w _ hw103_2)).trans hw103_2), ((HB.out.cell (World.block_lt_of_cell? w _ hw103_3)).trans hw103_3), ((HB.out.cell (World.block_lt_of_cell? w _ hw103_4)).trans hw103_4), ((HB.out.cell (World.block_lt_of_cell? w _ hw103_5)).trans hw103_5), ((HB.out.cell (World.block_lt_of_cell? w _ hw104_0)).trans hw104_0), ((HB.out.cell (World.block_lt_of_cell? w _ hw104_1)).trans hw104_1), ((HB.out.cell (World.block_lt_of_cell? w _ hw104_2)).trans hw104_2), ((HB.out.cell (World.block_lt_of_cell? w _ hw104_3)).trans hw104_3), ((HB.out.cell (World.block_lt_of_cell? w _ hw104_4)).trans hw104_4), ((HB.out.cell (World.block_lt_of_cell? w _ hw104_5)).trans hw104_5)⟩ (fun hHeld => ?_); refine with_tabW spec_l4Same.tab6 spec_l4Same.bits6 (fun HT_ HW_ => ?_)
          generalize wr.drew = w41 at qq1 qo1 HB HR103_2 HR103_5 HR104_2 HR104_5 qb1 qd1 qo qs qh qi qw qd qe qi1 qy qn hHeld ⊢
          refine pure_ (i := 0) (N := some 58) (v := ?_) (a' := ?_) #[true, false, false, false, false, false, false, false, false, false, false, false] rfl rfl (any_of HT_.out (by kernel_rfl)) (fun _ _ _ h => h) (Or.inl ⟨by rfl, ?_⟩) ?_ ?_
          rotate_left
          ·intro w'
           go_simp
           with_reducible rfl
          rotate_left
          ·simp only [Act.put, List.setIfInBounds_toArray, List.set_cons_zero, List.set_cons_succ, i64_w, i32_w]
           rfl
          refine pure_ (i := 2) (N := some 60) (v := ?_) (a' := ?_) #[true, false, true, false, false, false, false, false, false, false, false, false] rfl rfl (any_of HT_.out (by kernel_rfl)) (fun _ _ _ h => h) (Or.inl ⟨by rfl, ?_⟩) ?_ ?_
          rotate_left
          ·intro w'
           go_simp
           with_reducible rfl
          rotate_left
          ·simp only [Act.put, List.setIfInBounds_toArray, List.set_cons_zero, List.set_cons_succ, i64_w, i32_w]
           rfl
          refine pure_ (i := 5) (N := some 63) (v := ?_) (a' := ?_) #[true, false, true, false, false, true, false, false, false, false, false, false] rfl rfl (any_of HT_.out (by kernel_rfl)) (fun _ _ _ h => h) (Or.inl ⟨by rfl, ?_⟩) ?_ ?_
          rotate_left
          ·intro w'
           go_simp
           with_reducible rfl
          rotate_left
          ·simp only [Act.put, List.setIfInBounds_toArray, List.set_cons_zero, List.set_cons_succ, i64_w, i32_w]
           rfl
          refine pure_ (i := 7) (N := some 65) (v := ?_) (a' := ?_) #[true, false, true, false, false, true, false, true, false, false, false, false] rfl rfl (any_of HT_.out (by kernel_rfl)) (fun _ _ _ h => h) (Or.inl ⟨by rfl, ?_⟩) ?_ ?_
          rotate_left
          ·intro w'
           go_simp
           with_reducible rfl
          rotate_left
          ·simp only [Act.put, List.setIfInBounds_toArray, List.set_cons_zero, List.set_cons_succ, i64_w, i32_w]
           rfl
          refine take_ (i := 1) (N := some 59) (v := ?_) (a' := ?_) #[true, true, true, false, false, true, false, true, false, false, false, false] rfl rfl (take_ofW HT_.out HW_.out (by kernel_rfl)) (fun _ _ _ h => h) (Or.inl ⟨by rfl, ?_⟩) hHeld ?_ ?_
          rotate_left
          ·rintro w' ⟨s0, s1, s2, s3, s4, s5, s6, s7, s8, s9, s10, s11, s12, s13, s14, s15, s16, s17, s18, s19, s20, s21, s22, s23⟩
           go_simp
           with_reducible rfl
          rotate_left
          ·simp only [Act.put, List.setIfInBounds_toArray, List.set_cons_zero, List.set_cons_succ, i64_w, i32_w]
           rfl
          refine pure_ (i := 3) (N := some 61) (v := ?_) (a' := ?_) #[true, true, true, true, false, true, false, true, false, false, false, false] rfl rfl (any_of HT_.out (by kernel_rfl)) (fun _ _ _ h => h) (Or.inl ⟨by rfl, ?_⟩) ?_ ?_
          rotate_left
          ·intro w'
           go_simp
           with_reducible rfl
          rotate_left
          ·simp only [Act.put, List.setIfInBounds_toArray, List.set_cons_zero, List.set_cons_succ, i64_w, i32_w]
           rfl
          refine take_ (i := 4) (N := some 62) (v := ?_) (a' := ?_) #[true, true, true, true, true, true, false, true, false, false, false, false] rfl rfl (take_ofW HT_.out HW_.out (by kernel_rfl)) (fun _ _ _ h => h) (Or.inl ⟨by rfl, ?_⟩) hHeld ?_ ?_
          rotate_left
          ·rintro w' ⟨s0, s1, s2, s3, s4, s5, s6, s7, s8, s9, s10, s11, s12, s13, s14, s15, s16, s17, s18, s19, s20, s21, s22, s23⟩
           go_simp
           with_reducible rfl
          rotate_left
          ·simp only [Act.put, List.setIfInBounds_toArray, List.set_cons_zero, List.set_cons_succ, i64_w, i32_w]
           rfl
          refine take_ (i := 6) (N := some 64) (v := ?_) (a' := ?_) #[true, true, true, true, true, true, true, true, false, false, false, false] rfl rfl (take_ofW HT_.out HW_.out (by kernel_rfl)) (fun _ _ _ h => h) (Or.inl ⟨by rfl, ?_⟩) hHeld ?_ ?_
          rotate_left
          ·rintro w' ⟨s0, s1, s2, s3, s4, s5, s6, s7, s8, s9, s10, s11, s12, s13, s14, s15, s16, s17, s18, s19, s20, s21, s22, s23⟩
           go_simp
           with_reducible rfl
          rotate_left
          ·simp only [Act.put, List.setIfInBounds_toArray, List.set_cons_zero, List.set_cons_succ, i64_w, i32_w]
           rfl
          refine pure_ (i := 8) (N := some 66) (v := ?_) (a' := ?_) #[true, true, true, true, true, true, true, true, true, false, false, false] rfl rfl (any_of HT_.out (by kernel_rfl)) (fun _ _ _ h => h) (Or.inl ⟨by rfl, ?_⟩) ?_ ?_
          rotate_left
          ·intro w'
           go_simp
           with_reducible rfl
          rotate_left
          ·simp only [Act.put, List.setIfInBounds_toArray, List.set_cons_zero, List.set_cons_succ, i64_w, i32_w]
           rfl
          refine take_ (i := 9) (N := some 67) (v := ?_) (a' := ?_) #[true, true, true, true, true, true, true, true, true, true, false, false] rfl rfl (take_ofW HT_.out HW_.out (by kernel_rfl)) (fun _ _ _ h => h) (Or.inl ⟨by rfl, ?_⟩) hHeld ?_ ?_
          rotate_left
          ·rintro w' ⟨s0, s1, s2, s3, s4, s5, s6, s7, s8, s9, s10, s11, s12, s13, s14, s15, s16, s17, s18, s19, s20, s21, s22, s23⟩
           go_simp
           with_reducible rfl
          rotate_left
          ·simp only [Act.put, List.setIfInBounds_toArray, List.set_cons_zero, List.set_cons_succ, i64_w, i32_w]
           rfl
          refine one_ (i := 10) (N := some 68) #[true, true, true, true, true, true, true, true, true, true, true, false] rfl rfl (one_of HT_.out (by kernel_rfl)) (by decide) (fun K hK => ?_)
          refine goes_ Try.func18 (by kernel_rfl) rfl #[.agg #[.int .i64 ((rd_T29 l0_2 x5_2).f0), .string ((rd_T29 l0_2 x5_2).f1), .slice A103_2 ((rd_T29 l0_2 x5_2).f2).length c103_2, .int .i64 ((rd_T29 l0_2 x5_2).f3), .int .i64 ((rd_T29 l0_2 x5_2).f4), .slice A103_5 ((rd_T29 l0_2 x5_2).f5).length c103_5], .agg #[.int .i64 ((rd_T29 l1_2 x5_2).f0), .string ((rd_T29 l1_2 x5_2).f1), .slice A104_2 ((rd_T29 l1_2 x5_2).f2).length c104_2, .int .i64 ((rd_T29 l1_2 x5_2).f3), .int .i64 ((rd_T29 l1_2 x5_2).f4), .slice A104_5 ((rd_T29 l1_2 x5_2).f5).length c104_5]] (by rfl) rfl rfl (by (try simp only [List.map_toArray, List.map_cons, List.map_nil]); first | done | rfl | (simp only [List.length_drop, List.length_take]; rfl)) ?_
          with_reducible refine (ih k2 (by have := HJ2.out; have := HK2.out; omega) ((rd_T29 l0_2 x5_2).f0) ((rd_T29 l0_2 x5_2).f1) _ _ ((rd_T29 l0_2 x5_2).f2) ((rd_T29 l0_2 x5_2).f3) ((rd_T29 l0_2 x5_2).f4) _ _ ((rd_T29 l0_2 x5_2).f5) ((rd_T29 l1_2 x5_2).f0) ((rd_T29 l1_2 x5_2).f1) _ _ ((rd_T29 l1_2 x5_2).f2) ((rd_T29 l1_2 x5_2).f3) ((rd_T29 l1_2 x5_2).f4) _ _ ((rd_T29 l1_2 x5_2).f5) false _ ?side1 ?side2 ?side3 ?side4 ?side5 ?side6 ?side7 ?side8 A33.out).mono ?_
          (case side1 => repeat (first | exact (Kd.C_below HR103_2.out HB.out) | (with_reducible refine Kd.C_alloc ?_ _) | (with_reducible refine Kd.C_drewN ?_ _) | (with_reducible refine Kd.C_drew ?_)))
          (case side2 => exact HC103_2.out)
          (case side3 => repeat (first | exact (Kd.C_below HR103_5.out HB.out) | (with_reducible refine Kd.C_alloc ?_ _) | (with_reducible refine Kd.C_drewN ?_ _) | (with_reducible refine Kd.C_drew ?_)))
          (case side4 => exact HC103_5.out)
          (case side5 => repeat (first | exact (Kd.C_below HR104_2.out HB.out) | (with_reducible refine Kd.C_alloc ?_ _) | (with_reducible refine Kd.C_drewN ?_ _) | (with_reducible refine Kd.C_drew ?_)))
          (case side6 => exact HC104_2.out)
          (case side7 => repeat (first | exact (Kd.C_below HR104_5.out HB.out) | (with_reducible refine Kd.C_alloc ?_ _) | (with_reducible refine Kd.C_drewN ?_ _) | (with_reducible refine Kd.C_drew ?_)))
          (case side8 => exact HC104_5.out)
          rintro e w42 ⟨rfl, hb⟩
          refine ⟨_, rfl, ?_⟩
          have n0_ := Aside0.mk (jl (g := ga) (o := .cells #[.int .i64 a0_0, .string a0_1, .slice (some ad103) l0_2.length c0_2, .int .i64 a0_3, .int .i64 a0_4, .slice A0_5 l0_5.length c0_5] 29 (0, 0)) (by (with_reducible repeat (first | refine ja ?_ _ | refine jb ?_ | refine jc ?_ _)); exact qq1.out) hb)
          have n1_ := Aside0.mk (jl (g := gc) (o := .cells #[.int .i64 a1_0, .string a1_1, .slice (some ad104) l1_2.length c1_2, .int .i64 a1_3, .int .i64 a1_4, .slice A1_5 l1_5.length c1_5] 29 (0, 0)) (by (with_reducible repeat (first | refine ja ?_ _ | refine jb ?_ | refine jc ?_ _)); exact qo1.out) hb)
          have n2_ := Aside0.mk (below_step (by repeat (first | (with_reducible first | exact HB.out | apply js | apply jt | apply ju | refine jj ?_ qn1.out | refine jj ?_ qp1.out) | exact HB.out)) hb)
          clear qq1
          clear qo1
          clear HB
          have qq1 := n0_
          have qo1 := n1_
          have HB := n2_
          clear n0_ n1_ n2_
          (try clear hb)
          (try clear hb2)
          (try clear hk)
          (try clear hi)
          refine hK.out _ _ ⟨(jh qq1.out 0).trans rfl, (jh qq1.out 1).trans rfl, (jh qq1.out 2).trans rfl, (jh qq1.out 3).trans rfl, (jh qq1.out 4).trans rfl, (jh qq1.out 5).trans rfl, (jh qo1.out 0).trans rfl, (jh qo1.out 1).trans rfl, (jh qo1.out 2).trans rfl, (jh qo1.out 3).trans rfl, (jh qo1.out 4).trans rfl, (jh qo1.out 5).trans rfl, ((HB.out.cell (World.block_lt_of_cell? w _ hw103_0)).trans hw103_0), ((HB.out.cell (World.block_lt_of_cell? w _ hw103_1)).trans hw103_1), ((HB.out.cell (World.block_lt_of_cell? w _ hw103_2)).trans hw103_2), ((HB.out.cell (World.block_lt_of_cell? w _ hw103_3)).trans hw103_3), ((HB.out.cell (World.block_lt_of_cell? w _ hw103_4)).trans hw103_4), ((HB.out.cell (World.block_lt_of_cell? w _ hw103_5)).trans hw103_5), ((HB.out.cell (World.block_lt_of_cell? w _ hw104_0)).trans hw104_0), ((HB.out.cell (World.block_lt_of_cell? w _ hw104_1)).trans hw104_1), ((HB.out.cell (World.block_lt_of_cell? w _ hw104_2)).trans hw104_2), ((HB.out.cell (World.block_lt_of_cell? w _ hw104_3)).trans hw104_3), ((HB.out.cell (World.block_lt_of_cell? w _ hw104_4)).trans hw104_4), ((HB.out.cell (World.block_lt_of_cell? w _ hw104_5)).trans hw104_5)⟩ (fun hHeld => ?_)
          clear hK K
          refine norm_ (a' := ?_) ?_ ?_
          rotate_left
          ·show Act.put _ (some 68) _ = _
           simp only [Act.put, List.setIfInBounds_toArray, List.set_cons_zero, List.set_cons_succ, i64_w, i32_w]
           rfl
          refine pure_ (i := 11) (N := some 69) (v := ?_) (a' := ?_) #[true, true, true, true, true, true, true, true, true, true, true, true] rfl rfl (any_of HT_.out (by kernel_rfl)) (fun _ _ _ h => h) (Or.inl ⟨by rfl, ?_⟩) ?_ ?_
          rotate_left
          ·intro w'
           go_simp
           with_reducible rfl
          rotate_left
          ·simp only [Act.put, List.setIfInBounds_toArray, List.set_cons_zero, List.set_cons_succ, i64_w, i32_w]
           rfl
          refine done_ (done_of HT_.out (by kernel_rfl)) ?_
          try go_wp2
          go_ret
          exact ⟨by first | rfl | (simp [errW_none, errW_some] <;> rfl) | (simp [*, errW_none, errW_some] <;> rfl) | (simp only [Bool.and_eq_true, beq_iff_eq, Bool.not_eq_true', Bool.not_eq_eq_eq_not, Bool.not_true, Bool.not_false] at *; simp [*]), by repeat (first | (with_reducible first | exact HB.out | apply js | apply jt | apply ju | refine jj ?_ qn1.out | refine jj ?_ qp1.out) | exact HB.out)⟩
        ·rw [if_neg c32] at H
         exact absurd H (by simp)
       ·rw [if_neg c31] at H
        exact absurd H (by simp)
      ·rw [if_neg c30] at H
       have c30b0 : decide (x5_2 < (l0_2.length : Int)) = false := decide_eq_false c30
       clear c30
       have H' := Aside0.mk H
       clear H
       have hnb43 := qa.out
       have hnc43 := qb.out
       have hcz44_0 : wr.cell? ⟨ga, 0, none⟩ = some (.int .i64 a0_0) := (jh qq1.out 0).trans rfl
       have hcz44_1 : wr.cell? ⟨ga, 1, none⟩ = some (.string a0_1) := (jh qq1.out 1).trans rfl
       have hcz44_2 : wr.cell? ⟨ga, 2, none⟩ = some (.slice A0_2 l0_2.length c0_2) := (jh qq1.out 2).trans rfl
       have hcz44_3 : wr.cell? ⟨ga, 3, none⟩ = some (.int .i64 a0_3) := (jh qq1.out 3).trans rfl
       have hcz44_4 : wr.cell? ⟨ga, 4, none⟩ = some (.int .i64 a0_4) := (jh qq1.out 4).trans rfl
       have hcz44_5 : wr.cell? ⟨ga, 5, none⟩ = some (.slice A0_5 l0_5.length c0_5) := (jh qq1.out 5).trans rfl
       have hfz44_0 := ji qq1.out 0
       have hfz44_1 := ji qq1.out 1
       have hfz44_2 := ji qq1.out 2
       have hfz44_3 := ji qq1.out 3
       have hfz44_4 := ji qq1.out 4
       have hfz44_5 := ji qq1.out 5
       go_wp2
       go_loopg [6] k2 (fun kq v6 w' => ∃ (x6_3 : Int), v6 = .int .i64 x6_3 ∧ Aside0 (spec_l4Same.l1 kq x6_3 a0_0 a0_1 l0_2 a0_3 a0_4 l0_5 a1_0 a1_1 l1_2 a1_3 a1_4 l1_5 = some r) ∧ Aside0 (kq ≤ k2) ∧ Aside0 (w'.heap[ga]? = some (.cells #[.int .i64 a0_0, .string a0_1, (.slice A0_2 l0_2.length c0_2), .int .i64 a0_3, .int .i64 a0_4, (.slice A0_5 l0_5.length c0_5)] 29 (0, 0))) ∧ Aside0 (w'.heap[gc]? = some (.cells #[.int .i64 a1_0, .string a1_1, (.slice A1_2 l1_2.length c1_2), .int .i64 a1_3, .int .i64 a1_4, (.slice A1_5 l1_5.length c1_5)] 29 (0, 0))) ∧ Aside0 (Below w.heap.size w w'))
       case atStart => exact ⟨(0), (by first | rfl | (simp; done) | (simp [*]; done)), H', ⟨Nat.le_refl _⟩, ⟨by (with_reducible repeat (first | refine ja ?_ _ | refine jb ?_ | refine jc ?_ _)); exact qq1.out⟩, ⟨by (with_reducible repeat (first | refine ja ?_ _ | refine jb ?_ | refine jc ?_ _)); exact qo1.out⟩, ⟨by repeat (first | (with_reducible first | exact HB.out | apply js | apply jt | apply ju | refine jj ?_ qn1.out | refine jj ?_ qp1.out) | exact HB.out)⟩⟩
       case round =>
        clear H'
        try clear c1
        try clear p1
        try clear q1
        try clear hx1
        try clear p2
        try clear c3
        try clear c4
        try clear p6
        try clear c10
        try clear p10
        try clear q10
        try clear hx10
        try clear c18
        try clear c30
        try clear c30b0
        try clear c31
        try clear c31b0
        try clear c32
        try clear c32b0
        try clear c34
        try clear c35
        try clear c39
        try clear c43
        try clear hcz15_3
        try clear hcz15_4
        try clear hcz15_5
        try clear hcz16_0
        try clear hcz16_1
        try clear hcz16_2
        try clear hcz16_3
        try clear hcz16_4
        try clear hcz16_5
        try clear hcz18_0
        try clear hcz18_1
        try clear hcz18_2
        try clear hcz18_3
        try clear hcz18_4
        try clear hcz18_5
        try clear hcz19_0
        try clear hcz19_1
        try clear hcz19_2
        try clear hcz19_3
        try clear hcz19_4
        try clear hcz19_5
        try clear hcz21_0
        try clear hcz21_1
        try clear hcz21_2
        try clear hcz21_3
        try clear hcz21_4
        try clear hcz21_5
        try clear hcz22_0
        try clear hcz22_1
        try clear hcz22_2
        try clear hcz22_3
        try clear hcz22_4
        try clear hcz22_5
        try clear hcz24_0
        try clear hcz24_1
        try clear hcz24_2
        try clear hcz24_3
        try clear hcz24_4
        try clear hcz24_5
        try clear hcz25_0
        try clear hcz25_1
        try clear hcz25_2
        try clear hcz25_3
        try clear hcz25_4
        try clear hcz25_5
        try clear hcz27_0
        try clear hcz27_1
        try clear hcz27_2
        try clear hcz27_3
        try clear hcz27_4
        try clear hcz27_5
        try clear hcz28_0
        try clear hcz28_1
        try clear hcz28_2
        try clear hcz28_3
        try clear hcz28_4
        try clear hcz28_5
        try clear hcz36_0
        try clear hcz36_1
        try clear hcz36_2
        try clear hcz36_3
        try clear hcz36_4
        try clear hcz36_5
        try clear hcz40_0
        try clear hcz40_1
        try clear hcz40_2
        try clear hcz40_3
        try clear hcz40_4
        try clear hcz40_5
        try clear hcz44_0
        try clear hcz44_1
        try clear hcz44_2
        try clear hcz44_3
        try clear hcz44_4
        try clear hcz44_5
        try clear hfz12_0
        try clear hfz12_1
        try clear hfz12_2
        try clear hfz12_3
        try clear hfz12_4
        try clear hfz12_5
        try clear hfz13_0
        try clear hfz13_1
        try clear hfz13_2
        try clear hfz13_3
        try clear hfz13_4
        try clear hfz13_5
        try clear hfz15_0
        try clear hfz15_1
        try clear hfz15_2
        try clear hfz15_3
        try clear hfz15_4
        try clear hfz15_5
        try clear hfz16_0
        try clear hfz16_1
        try clear hfz16_2
        try clear hfz16_3
        try clear hfz16_4
        try clear hfz16_5
        try clear hfz18_0
        try clear hfz18_1
        try clear hfz18_2
        try clear hfz18_3
        try clear hfz18_4
        try clear hfz18_5
        try clear hfz19_0
        try clear hfz19_1
        try clear hfz19_2
        try clear hfz19_3
        try clear hfz19_4
        try clear hfz19_5
        try clear hfz21_0
        try clear hfz21_1
        try clear hfz21_2
        try clear hfz21_3
        try clear hfz21_4
        try clear hfz21_5
        try clear hfz22_0
        try clear hfz22_1
        try clear hfz22_2
        try clear hfz22_3
        try clear hfz22_4
        try clear hfz22_5
        try clear hfz24_0
        try clear hfz24_1
        try clear hfz24_2
        try clear hfz24_3
        try clear hfz24_4
        try clear hfz24_5
        try clear hfz25_0
        try clear hfz25_1
        try clear hfz25_2
        try clear hfz25_3
        try clear hfz25_4
        try clear hfz25_5
        try clear hfz27_0
        try clear hfz27_1
        try clear hfz27_2
        try clear hfz27_3
        try clear hfz27_4
        try clear hfz27_5
        try clear hfz28_0
        try clear hfz28_1
        try clear hfz28_2
        try clear hfz28_3
        try clear hfz28_4
        try clear hfz28_5
        try clear hfz36_0
        try clear hfz36_1
        try clear hfz36_2
        try clear hfz36_3
        try clear hfz36_4
        try clear hfz36_5
        try clear hfz40_0
        try clear hfz40_1
        try clear hfz40_2
        try clear hfz40_3
        try clear hfz40_4
        try clear hfz40_5
        try clear hfz44_0
        try clear hfz44_1
        try clear hfz44_2
        try clear hfz44_3
        try clear hfz44_4
        try clear hfz44_5
        try clear qb1
        try clear qd1
        try clear qo
        try clear qs
        try clear qh
        try clear qi
        try clear qw
        try clear qd
        try clear qe
        try clear qi1
        try clear qy
        try clear qn
        try clear p103
        try clear p104
        try clear p2
        try clear q103
        try clear q104
        obtain ⟨x6_3, rfl, HA, HK3, qq1, qo1, HB⟩ := hrel
        cases gk with
        | zero => exact absurd HA.out (by simp [spec_l4Same.l1])
        | succ k3 =>
         have H := HA.out
         clear HA
         simp only [spec_l4Same.l1] at H
         by_cases c45 : x6_3 < (l0_5.length : Int)
         ·rw [if_pos c45] at H
          have c45b0 : decide (x6_3 < (l0_5.length : Int)) = true := decide_eq_true c45
          clear c45
          by_cases c46 : 0 ≤ x6_3
          ·rw [if_pos c46] at H
           have c46b0 : decide (0 ≤ x6_3) = true := decide_eq_true c46
           clear c46
           by_cases c47 : x6_3 < (l1_5.length : Int)
           ·rw [if_pos c47] at H
            have c47b0 : decide (x6_3 < (l1_5.length : Int)) = true := decide_eq_true c47
            clear c47
            replace H := Option.bind_eq_some_iff.mp H
            obtain ⟨t108, A480, H⟩ := H
            replace H : (if t108 = true then (spec_l4Same.l1 k3 (wrap64 (x6_3 + 1)) a0_0 a0_1 l0_2 a0_3 a0_4 l0_5 a1_0 a1_1 l1_2 a1_3 a1_4 l1_5) else (some false)) = some r := H
            have A48 := Aside0.mk A480
            clear A480
            by_cases c49 : t108 = true
            ·subst c49
             have H1 : (spec_l4Same.l1 k3 (wrap64 (x6_3 + 1)) a0_0 a0_1 l0_2 a0_3 a0_4 l0_5 a1_0 a1_1 l1_2 a1_3 a1_4 l1_5) = some r := by rw [if_pos rfl] at H; exact H
             clear H
             have H := H1
             clear H1
             have H' := Aside0.mk H
             clear H
             have hnb50 := qa.out
             have hnc50 := qb.out
             have hcz51_0 : wr.cell? ⟨ga, 0, none⟩ = some (.int .i64 a0_0) := (jh qq1.out 0).trans rfl
             have hcz51_1 : wr.cell? ⟨ga, 1, none⟩ = some (.string a0_1) := (jh qq1.out 1).trans rfl
             have hcz51_2 : wr.cell? ⟨ga, 2, none⟩ = some (.slice A0_2 l0_2.length c0_2) := (jh qq1.out 2).trans rfl
             have hcz51_3 : wr.cell? ⟨ga, 3, none⟩ = some (.int .i64 a0_3) := (jh qq1.out 3).trans rfl
             have hcz51_4 : wr.cell? ⟨ga, 4, none⟩ = some (.int .i64 a0_4) := (jh qq1.out 4).trans rfl
             have hcz51_5 : wr.cell? ⟨ga, 5, none⟩ = some (.slice A0_5 l0_5.length c0_5) := (jh qq1.out 5).trans rfl
             have hfz51_0 := ji qq1.out 0
             have hfz51_1 := ji qq1.out 1
             have hfz51_2 := ji qq1.out 2
             have hfz51_3 := ji qq1.out 3
             have hfz51_4 := ji qq1.out 4
             have hfz51_5 := ji qq1.out 5
             try go_wp2
             have n0_ := Aside0.mk (jb qq1.out)
             have n1_ := Aside0.mk (jb qo1.out)
             have n2_ := Aside0.mk (ju HB.out)
             clear qq1
             clear qo1
             clear HB
             have qq1 := n0_
             have qo1 := n1_
             have HB := n2_
             clear n0_ n1_ n2_
             have p106 : 0 ≤ (x6_3 : Int) := of_decide_eq_true (by first | (with_reducible assumption) | assumption)
             have q106 : x6_3 < (l0_5.length : Int) := of_decide_eq_true (by first | (with_reducible assumption) | assumption)
             obtain ⟨ad106, A106_2, c106_2, A106_5, c106_5, e106, qe1, qf1, qk1, qp, qm, qg1, hl106_2, hi106_2, hl106_5, hi106_5⟩ := at_T29 HR0_5.out x6_3 p106 q106
             have hw106_5 := qg1
             have hw106_4 := qm
             have hw106_3 := qp
             have hw106_2 := qk1
             have hw106_1 := qf1
             have hw106_0 := qe1
             cases e106
             replace qe1 := (HB.out.cell (World.block_lt_of_cell? w _ qe1)).trans qe1
             replace qf1 := (HB.out.cell (World.block_lt_of_cell? w _ qf1)).trans qf1
             replace qk1 := (HB.out.cell (World.block_lt_of_cell? w _ qk1)).trans qk1
             replace qp := (HB.out.cell (World.block_lt_of_cell? w _ qp)).trans qp
             replace qm := (HB.out.cell (World.block_lt_of_cell? w _ qm)).trans qm
             replace qg1 := (HB.out.cell (World.block_lt_of_cell? w _ qg1)).trans qg1
             have HR106_2 := Aside0.mk hi106_2
             have HC106_2 := Aside0.mk hl106_2
             clear hi106_2 hl106_2
             have HR106_5 := Aside0.mk hi106_5
             have HC106_5 := Aside0.mk hl106_5
             clear hi106_5 hl106_5
             replace p106 := eq_true p106
             replace q106 := eq_true q106
             have p107 : 0 ≤ (x6_3 : Int) := of_decide_eq_true (by first | (with_reducible assumption) | assumption)
             have q107 : x6_3 < (l1_5.length : Int) := of_decide_eq_true (by first | (with_reducible assumption) | assumption)
             obtain ⟨ad107, A107_2, c107_2, A107_5, c107_5, e107, qj, ql, qg, qt, qu, qv, hl107_2, hi107_2, hl107_5, hi107_5⟩ := at_T29 HR1_5.out x6_3 p107 q107
             have hw107_5 := qv
             have hw107_4 := qu
             have hw107_3 := qt
             have hw107_2 := qg
             have hw107_1 := ql
             have hw107_0 := qj
             cases e107
             replace qj := (HB.out.cell (World.block_lt_of_cell? w _ qj)).trans qj
             replace ql := (HB.out.cell (World.block_lt_of_cell? w _ ql)).trans ql
             replace qg := (HB.out.cell (World.block_lt_of_cell? w _ qg)).trans qg
             replace qt := (HB.out.cell (World.block_lt_of_cell? w _ qt)).trans qt
             replace qu := (HB.out.cell (World.block_lt_of_cell? w _ qu)).trans qu
             replace qv := (HB.out.cell (World.block_lt_of_cell? w _ qv)).trans qv
             have HR107_2 := Aside0.mk hi107_2
             have HC107_2 := Aside0.mk hl107_2
             clear hi107_2 hl107_2
             have HR107_5 := Aside0.mk hi107_5
             have HC107_5 := Aside0.mk hl107_5
             clear hi107_5 hl107_5
             replace p107 := eq_true p107
             replace q107 := eq_true q107
             refine start_ (n := 12) (S := fun w' => w'.cell? ⟨ga, 0, none⟩ = some (.int .i64 a0_0) ∧ w'.cell? ⟨ga, 1, none⟩ = some (.string a0_1) ∧ w'.cell? ⟨ga, 2, none⟩ = some (.slice A0_2 l0_2.length c0_2) ∧ w'.cell? ⟨ga, 3, none⟩ = some (.int .i64 a0_3) ∧ w'.cell? ⟨ga, 4, none⟩ = some (.int .i64 a0_4) ∧ w'.cell? ⟨ga, 5, none⟩ = some (.slice (some ad106) l0_5.length c0_5) ∧ w'.cell? ⟨gc, 0, none⟩ = some (.int .i64 a1_0) ∧ w'.cell? ⟨gc, 1, none⟩ = some (.string a1_1) ∧ w'.cell? ⟨gc, 2, none⟩ = some (.slice A1_2 l1_2.length c1_2) ∧ w'.cell? ⟨gc, 3, none⟩ = some (.int .i64 a1_3) ∧ w'.cell? ⟨gc, 4, none⟩ = some (.int .i64 a1_4) ∧ w'.cell? ⟨gc, 5, none⟩ = some (.slice (some ad107) l1_5.length c1_5) ∧ w'.cell? (ad106.add ((x6_3).toNat * 6)) = some (.int .i64 ((rd_T29 l0_5 x6_3).f0)) ∧ w'.cell? ⟨(ad106.add ((x6_3).toNat * 6)).block, (ad106.add ((x6_3).toNat * 6)).off + 1, none⟩ = some (.string ((rd_T29 l0_5 x6_3).f1)) ∧ w'.cell? ⟨(ad106.add ((x6_3).toNat * 6)).block, (ad106.add ((x6_3).toNat * 6)).off + 2, none⟩ = some (.slice A106_2 ((rd_T29 l0_5 x6_3).f2).length c106_2) ∧ w'.cell? ⟨(ad106.add ((x6_3).toNat * 6)).block, (ad106.add ((x6_3).toNat * 6)).off + 3, none⟩ = some (.int .i64 ((rd_T29 l0_5 x6_3).f3)) ∧ w'.cell? ⟨(ad106.add ((x6_3).toNat * 6)).block, (ad106.add ((x6_3).toNat * 6)).off + 4, none⟩ = some (.int .i64 ((rd_T29 l0_5 x6_3).f4)) ∧ w'.cell? ⟨(ad106.add ((x6_3).toNat * 6)).block, (ad106.add ((x6_3).toNat * 6)).off + 5, none⟩ = some (.slice A106_5 ((rd_T29 l0_5 x6_3).f5).length c106_5) ∧ w'.cell? (ad107.add ((x6_3).toNat * 6)) = some (.int .i64 ((rd_T29 l1_5 x6_3).f0)) ∧ w'.cell? ⟨(ad107.add ((x6_3).toNat * 6)).block, (ad107.add ((x6_3).toNat * 6)).off + 1, none⟩ = some (.string ((rd_T29 l1_5 x6_3).f1)) ∧ w'.cell? ⟨(ad107.add ((x6_3).toNat * 6)).block, (ad107.add ((x6_3).toNat * 6)).off + 2, none⟩ = some (.slice A107_2 ((rd_T29 l1_5 x6_3).f2).length c107_2) ∧ w'.cell? ⟨(ad107.add ((x6_3).toNat * 6)).block, (ad107.add ((x6_3).toNat * 6)).off + 3, none⟩ = some (.int .i64 ((rd_T29 l1_5 x6_3).f3)) ∧ w'.cell? ⟨(ad107.add ((x6_3).toNat * 6)).block, (ad107.add ((x6_3).toNat * 6)).off + 4, none⟩ = some (.int .i64 ((rd_T29 l1_5 x6_3).f4)) ∧ w'.cell? ⟨(ad107.add ((x6_3).toNat * 6)).block, (ad107.add ((x6_3).toNat * 6)).off + 5, none⟩ = some (.slice A107_5 ((rd_T29 l1_5 x6_3).f5).length c107_5)) (ds := []) #[false, false, false, false, false, false, false, false, false, false, false, false] (by kernel_rfl) rfl rfl ⟨(jh qq1.out 0).trans rfl, (jh qq1.out 1).trans rfl, (jh qq1.out 2).trans rfl, (jh qq1.out 3).trans rfl, (jh qq1.out 4).trans rfl, (jh qq1.out 5).trans rfl, (jh qo1.out 0).trans rfl, (jh qo1.out 1).trans rfl, (jh qo1.out 2).trans rfl, (jh qo1.out 3).trans rfl, (jh qo1.out 4).trans rfl, (jh qo1.out 5).trans rfl, ((HB.out.cell (World.block_lt_of_cell? w _ hw106_0)).trans hw106_0), ((HB.out.cell (World.block_lt_of_cell? w _ hw106_1)).trans hw106_1), ((HB.out.cell (World.block_lt_of_cell? w _ hw106_2)).trans hw106_2), ((HB.out.cell (World.block_lt_of_cell? w _ hw106_3)).trans hw106_3), ((HB.out.cell (World.block_lt_of_cell? w _ hw106_4)).trans hw106_4), ((HB.out.cell (World.block_lt_of_cell? w _ hw106_5)).trans hw106_5), ((HB.out.cell (World.block_lt_of_cell? w _ hw107_0)).trans hw107_0), ((HB.out.cell (World.block_lt_of_cell? w _ hw107_1)).trans hw107_1), ((HB.out.cell (World.block_lt_of_cell? w _ hw107_2)).trans hw107_2), ((HB.out.cell (World.block_lt_of_cell? w _ hw107_3)).trans hw107_3), ((HB.out.cell (World.block_lt_of_cell? w _ hw107_4)).trans hw107_4), ((HB.out.cell (World.block_lt_of_cell? w _ hw107_5)).trans hw107_5)⟩ (fun hHeld => ?_); refine with_tabW spec_l4Same.tab11 spec_l4Same.bits11 (fun HT_ HW_ => ?_)
             generalize wr.drew = w52 at qq1 qo1 HB HR106_2 HR106_5 HR107_2 HR107_5 qe1 qf1 qk1 qp qm qg1 qj ql qg qt qu qv hHeld ⊢
             refine pure_ (i := 0) (N := some 77) (v := ?_) (a' := ?_) #[true, false, false, false, false, false, false, false, false, false, false, false] rfl rfl (any_of HT_.out (by kernel_rfl)) (fun _ _ _ h => h) (Or.inl ⟨by rfl, ?_⟩) ?_ ?_
             rotate_left
             ·intro w'
              go_simp
              with_reducible rfl
             rotate_left
             ·simp only [Act.put, List.setIfInBounds_toArray, List.set_cons_zero, List.set_cons_succ, i64_w, i32_w]
              rfl
             refine pure_ (i := 2) (N := some 79) (v := ?_) (a' := ?_) #[true, false, true, false, false, false, false, false, false, false, false, false] rfl rfl (any_of HT_.out (by kernel_rfl)) (fun _ _ _ h => h) (Or.inl ⟨by rfl, ?_⟩) ?_ ?_
             rotate_left
             ·intro w'
              go_simp
              with_reducible rfl
             rotate_left
             ·simp only [Act.put, List.setIfInBounds_toArray, List.set_cons_zero, List.set_cons_succ, i64_w, i32_w]
              rfl
             refine pure_ (i := 5) (N := some 82) (v := ?_) (a' := ?_) #[true, false, true, false, false, true, false, false, false, false, false, false] rfl rfl (any_of HT_.out (by kernel_rfl)) (fun _ _ _ h => h) (Or.inl ⟨by rfl, ?_⟩) ?_ ?_
             rotate_left
             ·intro w'
              go_simp
              with_reducible rfl
             rotate_left
             ·simp only [Act.put, List.setIfInBounds_toArray, List.set_cons_zero, List.set_cons_succ, i64_w, i32_w]
              rfl
             refine pure_ (i := 7) (N := some 84) (v := ?_) (a' := ?_) #[true, false, true, false, false, true, false, true, false, false, false, false] rfl rfl (any_of HT_.out (by kernel_rfl)) (fun _ _ _ h => h) (Or.inl ⟨by rfl, ?_⟩) ?_ ?_
             rotate_left
             ·intro w'
              go_simp
              with_reducible rfl
             rotate_left
             ·simp only [Act.put, List.setIfInBounds_toArray, List.set_cons_zero, List.set_cons_succ, i64_w, i32_w]
              rfl
             refine take_ (i := 1) (N := some 78) (v := ?_) (a' := ?_) #[true, true, true, false, false, true, false, true, false, false, false, false] rfl rfl (take_ofW HT_.out HW_.out (by kernel_rfl)) (fun _ _ _ h => h) (Or.inl ⟨by rfl, ?_⟩) hHeld ?_ ?_
             rotate_left
             ·rintro w' ⟨s0, s1, s2, s3, s4, s5, s6, s7, s8, s9, s10, s11, s12, s13, s14, s15, s16, s17, s18, s19, s20, s21, s22, s23⟩
              go_simp
              with_reducible rfl
             rotate_left
             ·simp only [Act.put, List.setIfInBounds_toArray, List.set_cons_zero, List.set_cons_succ, i64_w, i32_w]
              rfl
             refine pure_ (i := 3) (N := some 80) (v := ?_) (a' := ?_) #[true, true, true, true, false, true, false, true, false, false, false, false] rfl rfl (any_of HT_.out (by kernel_rfl)) (fun _ _ _ h => h) (Or.inl ⟨by rfl, ?_⟩) ?_ ?_
             rotate_left
             ·intro w'
              go_simp
              with_reducible rfl
             rotate_left
             ·simp only [Act.put, List.setIfInBounds_toArray, List.set_cons_zero, List.set_cons_succ, i64_w, i32_w]
              rfl
             refine take_ (i := 4) (N := some 81) (v := ?_) (a' := ?_) #[true, true, true, true, true, true, false, true, false, false, false, false] rfl rfl (take_ofW HT_.out HW_.out (by kernel_rfl)) (fun _ _ _ h => h) (Or.inl ⟨by rfl, ?_⟩) hHeld ?_ ?_
             rotate_left
             ·rintro w' ⟨s0, s1, s2, s3, s4, s5, s6, s7, s8, s9, s10, s11, s12, s13, s14, s15, s16, s17, s18, s19, s20, s21, s22, s23⟩
              go_simp
              with_reducible rfl
             rotate_left
             ·simp only [Act.put, List.setIfInBounds_toArray, List.set_cons_zero, List.set_cons_succ, i64_w, i32_w]
              rfl
             refine take_ (i := 6) (N := some 83) (v := ?_) (a' := ?_) #[true, true, true, true, true, true, true, true, false, false, false, false] rfl rfl (take_ofW HT_.out HW_.out (by kernel_rfl)) (fun _ _ _ h => h) (Or.inl ⟨by rfl, ?_⟩) hHeld ?_ ?_
             rotate_left
             ·rintro w' ⟨s0, s1, s2, s3, s4, s5, s6, s7, s8, s9, s10, s11, s12, s13, s14, s15, s16, s17, s18, s19, s20, s21, s22, s23⟩
              go_simp
              with_reducible rfl
             rotate_left
             ·simp only [Act.put, List.setIfInBounds_toArray, List.set_cons_zero, List.set_cons_succ, i64_w, i32_w]
              rfl
             refine pure_ (i := 8) (N := some 85) (v := ?_) (a' := ?_) #[true, true, true, true, true, true, true, true, true, false, false, false] rfl rfl (any_of HT_.out (by kernel_rfl)) (fun _ _ _ h => h) (Or.inl ⟨by rfl, ?_⟩) ?_ ?_
             rotate_left
             ·intro w'
              go_simp
              with_reducible rfl
             rotate_left
             ·simp only [Act.put, List.setIfInBounds_toArray, List.set_cons_zero, List.set_cons_succ, i64_w, i32_w]
              rfl
             refine take_ (i := 9) (N := some 86) (v := ?_) (a' := ?_) #[true, true, true, true, true, true, true, true, true, true, false, false] rfl rfl (take_ofW HT_.out HW_.out (by kernel_rfl)) (fun _ _ _ h => h) (Or.inl ⟨by rfl, ?_⟩) hHeld ?_ ?_
             rotate_left
             ·rintro w' ⟨s0, s1, s2, s3, s4, s5, s6, s7, s8, s9, s10, s11, s12, s13, s14, s15, s16, s17, s18, s19, s20, s21, s22, s23⟩
              go_simp
              with_reducible rfl
             rotate_left
             ·simp only [Act.put, List.setIfInBounds_toArray, List.set_cons_zero, List.set_cons_succ, i64_w, i32_w]
              rfl
             refine one_ (i := 10) (N := some 87) #[true, true, true, true, true, true, true, true, true, true, true, false] rfl rfl (one_of HT_.out (by kernel_rfl)) (by decide) (fun K hK => ?_)
             refine goes_ Try.func18 (by kernel_rfl) rfl #[.agg #[.int .i64 ((rd_T29 l0_5 x6_3).f0), .string ((rd_T29 l0_5 x6_3).f1), .slice A106_2 ((rd_T29 l0_5 x6_3).f2).length c106_2, .int .i64 ((rd_T29 l0_5 x6_3).f3), .int .i64 ((rd_T29 l0_5 x6_3).f4), .slice A106_5 ((rd_T29 l0_5 x6_3).f5).length c106_5], .agg #[.int .i64 ((rd_T29 l1_5 x6_3).f0), .string ((rd_T29 l1_5 x6_3).f1), .slice A107_2 ((rd_T29 l1_5 x6_3).f2).length c107_2, .int .i64 ((rd_T29 l1_5 x6_3).f3), .int .i64 ((rd_T29 l1_5 x6_3).f4), .slice A107_5 ((rd_T29 l1_5 x6_3).f5).length c107_5]] (by rfl) rfl rfl (by (try simp only [List.map_toArray, List.map_cons, List.map_nil]); first | done | rfl | (simp only [List.length_drop, List.length_take]; rfl)) ?_
             with_reducible refine (ih k3 (by have := HJ2.out; have := HK2.out; have := HK3.out; omega) ((rd_T29 l0_5 x6_3).f0) ((rd_T29 l0_5 x6_3).f1) _ _ ((rd_T29 l0_5 x6_3).f2) ((rd_T29 l0_5 x6_3).f3) ((rd_T29 l0_5 x6_3).f4) _ _ ((rd_T29 l0_5 x6_3).f5) ((rd_T29 l1_5 x6_3).f0) ((rd_T29 l1_5 x6_3).f1) _ _ ((rd_T29 l1_5 x6_3).f2) ((rd_T29 l1_5 x6_3).f3) ((rd_T29 l1_5 x6_3).f4) _ _ ((rd_T29 l1_5 x6_3).f5) true _ ?side1 ?side2 ?side3 ?side4 ?side5 ?side6 ?side7 ?side8 A48.out).mono ?_
             (case side1 => repeat (first | exact (Kd.C_below HR106_2.out HB.out) | (with_reducible refine Kd.C_alloc ?_ _) | (with_reducible refine Kd.C_drewN ?_ _) | (with_reducible refine Kd.C_drew ?_)))
             (case side2 => exact HC106_2.out)
             (case side3 => repeat (first | exact (Kd.C_below HR106_5.out HB.out) | (with_reducible refine Kd.C_alloc ?_ _) | (with_reducible refine Kd.C_drewN ?_ _) | (with_reducible refine Kd.C_drew ?_)))
             (case side4 => exact HC106_5.out)
             (case side5 => repeat (first | exact (Kd.C_below HR107_2.out HB.out) | (with_reducible refine Kd.C_alloc ?_ _) | (with_reducible refine Kd.C_drewN ?_ _) | (with_reducible refine Kd.C_drew ?_)))
             (case side6 => exact HC107_2.out)
             (case side7 => repeat (first | exact (Kd.C_below HR107_5.out HB.out) | (with_reducible refine Kd.C_alloc ?_ _) | (with_reducible refine Kd.C_drewN ?_ _) | (with_reducible refine Kd.C_drew ?_)))
             (case side8 => exact HC107_5.out)
             rintro e w53 ⟨rfl, hb⟩
             refine ⟨_, rfl, ?_⟩
             have n0_ := Aside0.mk (jl (g := ga) (o := .cells #[.int .i64 a0_0, .string a0_1, .slice A0_2 l0_2.length c0_2, .int .i64 a0_3, .int .i64 a0_4, .slice (some ad106) l0_5.length c0_5] 29 (0, 0)) (by (with_reducible repeat (first | refine ja ?_ _ | refine jb ?_ | refine jc ?_ _)); exact qq1.out) hb)
             have n1_ := Aside0.mk (jl (g := gc) (o := .cells #[.int .i64 a1_0, .string a1_1, .slice A1_2 l1_2.length c1_2, .int .i64 a1_3, .int .i64 a1_4, .slice (some ad107) l1_5.length c1_5] 29 (0, 0)) (by (with_reducible repeat (first | refine ja ?_ _ | refine jb ?_ | refine jc ?_ _)); exact qo1.out) hb)
             have n2_ := Aside0.mk (below_step (by repeat (first | (with_reducible first | exact HB.out | apply js | apply jt | apply ju | refine jj ?_ qn1.out | refine jj ?_ qp1.out) | exact HB.out)) hb)
             clear qq1
             clear qo1
             clear HB
             have qq1 := n0_
             have qo1 := n1_
             have HB := n2_
             clear n0_ n1_ n2_
             (try clear hb)
             (try clear hb2)
             (try clear hk)
             (try clear hi)
             refine hK.out _ _ ⟨(jh qq1.out 0).trans rfl, (jh qq1.out 1).trans rfl, (jh qq1.out 2).trans rfl, (jh qq1.out 3).trans rfl, (jh qq1.out 4).trans rfl, (jh qq1.out 5).trans rfl, (jh qo1.out 0).trans rfl, (jh qo1.out 1).trans rfl, (jh qo1.out 2).trans rfl, (jh qo1.out 3).trans rfl, (jh qo1.out 4).trans rfl, (jh qo1.out 5).trans rfl, ((HB.out.cell (World.block_lt_of_cell? w _ hw106_0)).trans hw106_0), ((HB.out.cell (World.block_lt_of_cell? w _ hw106_1)).trans hw106_1), ((HB.out.cell (World.block_lt_of_cell? w _ hw106_2)).trans hw106_2), ((HB.out.cell (World.block_lt_of_cell? w _ hw106_3)).trans hw106_3), ((HB.out.cell (World.block_lt_of_cell? w _ hw106_4)).trans hw106_4), ((HB.out.cell (World.block_lt_of_cell? w _ hw106_5)).trans hw106_5), ((HB.out.cell (World.block_lt_of_cell? w _ hw107_0)).trans hw107_0), ((HB.out.cell (World.block_lt_of_cell? w _ hw107_1)).trans hw107_1), ((HB.out.cell (World.block_lt_of_cell? w _ hw107_2)).trans hw107_2), ((HB.out.cell (World.block_lt_of_cell? w _ hw107_3)).trans hw107_3), ((HB.out.cell (World.block_lt_of_cell? w _ hw107_4)).trans hw107_4), ((HB.out.cell (World.block_lt_of_cell? w _ hw107_5)).trans hw107_5)⟩ (fun hHeld => ?_)
             clear hK K
             refine norm_ (a' := ?_) ?_ ?_
             rotate_left
             ·show Act.put _ (some 87) _ = _
              simp only [Act.put, List.setIfInBounds_toArray, List.set_cons_zero, List.set_cons_succ, i64_w, i32_w]
              rfl
             refine pure_ (i := 11) (N := some 88) (v := ?_) (a' := ?_) #[true, true, true, true, true, true, true, true, true, true, true, true] rfl rfl (any_of HT_.out (by kernel_rfl)) (fun _ _ _ h => h) (Or.inl ⟨by rfl, ?_⟩) ?_ ?_
             rotate_left
             ·intro w'
              go_simp
              with_reducible rfl
             rotate_left
             ·simp only [Act.put, List.setIfInBounds_toArray, List.set_cons_zero, List.set_cons_succ, i64_w, i32_w]
              rfl
             refine done_ (done_of HT_.out (by kernel_rfl)) ?_
             try go_wp2
             go_roundg k3
             case measure => have := HJ2.out; have := HK2.out; have := HK3.out; omega
             case rel => exact ⟨(wrap64 (x6_3 + 1)), (by first | rfl | (simp; done) | (simp [*]; done)), H', ⟨by have := HJ2.out; have := HK2.out; have := HK3.out; omega⟩, ⟨by (with_reducible repeat (first | refine ja ?_ _ | refine jb ?_ | refine jc ?_ _)); exact qq1.out⟩, ⟨by (with_reducible repeat (first | refine ja ?_ _ | refine jb ?_ | refine jc ?_ _)); exact qo1.out⟩, ⟨by repeat (first | (with_reducible first | exact HB.out | apply js | apply jt | apply ju | refine jj ?_ qn1.out | refine jj ?_ qp1.out) | exact HB.out)⟩⟩
            ·replace c49 := Bool.eq_false_iff.mpr c49
             subst c49
             have H1 : (some false) = some r := by rw [if_neg (show ¬ (false = true) by decide)] at H; exact H
             clear H
             have H := H1
             clear H1
             obtain rfl := Option.some.inj H
             have hnb54 := qa.out
             have hnc54 := qb.out
             have hcz55_0 : wr.cell? ⟨ga, 0, none⟩ = some (.int .i64 a0_0) := (jh qq1.out 0).trans rfl
             have hcz55_1 : wr.cell? ⟨ga, 1, none⟩ = some (.string a0_1) := (jh qq1.out 1).trans rfl
             have hcz55_2 : wr.cell? ⟨ga, 2, none⟩ = some (.slice A0_2 l0_2.length c0_2) := (jh qq1.out 2).trans rfl
             have hcz55_3 : wr.cell? ⟨ga, 3, none⟩ = some (.int .i64 a0_3) := (jh qq1.out 3).trans rfl
             have hcz55_4 : wr.cell? ⟨ga, 4, none⟩ = some (.int .i64 a0_4) := (jh qq1.out 4).trans rfl
             have hcz55_5 : wr.cell? ⟨ga, 5, none⟩ = some (.slice A0_5 l0_5.length c0_5) := (jh qq1.out 5).trans rfl
             have hfz55_0 := ji qq1.out 0
             have hfz55_1 := ji qq1.out 1
             have hfz55_2 := ji qq1.out 2
             have hfz55_3 := ji qq1.out 3
             have hfz55_4 := ji qq1.out 4
             have hfz55_5 := ji qq1.out 5
             try go_wp2
             have n0_ := Aside0.mk (jb qq1.out)
             have n1_ := Aside0.mk (jb qo1.out)
             have n2_ := Aside0.mk (ju HB.out)
             clear qq1
             clear qo1
             clear HB
             have qq1 := n0_
             have qo1 := n1_
             have HB := n2_
             clear n0_ n1_ n2_
             have p106 : 0 ≤ (x6_3 : Int) := of_decide_eq_true (by first | (with_reducible assumption) | assumption)
             have q106 : x6_3 < (l0_5.length : Int) := of_decide_eq_true (by first | (with_reducible assumption) | assumption)
             obtain ⟨ad106, A106_2, c106_2, A106_5, c106_5, e106, qe1, qf1, qk1, qp, qm, qg1, hl106_2, hi106_2, hl106_5, hi106_5⟩ := at_T29 HR0_5.out x6_3 p106 q106
             have hw106_5 := qg1
             have hw106_4 := qm
             have hw106_3 := qp
             have hw106_2 := qk1
             have hw106_1 := qf1
             have hw106_0 := qe1
             cases e106
             replace qe1 := (HB.out.cell (World.block_lt_of_cell? w _ qe1)).trans qe1
             replace qf1 := (HB.out.cell (World.block_lt_of_cell? w _ qf1)).trans qf1
             replace qk1 := (HB.out.cell (World.block_lt_of_cell? w _ qk1)).trans qk1
             replace qp := (HB.out.cell (World.block_lt_of_cell? w _ qp)).trans qp
             replace qm := (HB.out.cell (World.block_lt_of_cell? w _ qm)).trans qm
             replace qg1 := (HB.out.cell (World.block_lt_of_cell? w _ qg1)).trans qg1
             have HR106_2 := Aside0.mk hi106_2
             have HC106_2 := Aside0.mk hl106_2
             clear hi106_2 hl106_2
             have HR106_5 := Aside0.mk hi106_5
             have HC106_5 := Aside0.mk hl106_5
             clear hi106_5 hl106_5
             replace p106 := eq_true p106
             replace q106 := eq_true q106
             have p107 : 0 ≤ (x6_3 : Int) := of_decide_eq_true (by first | (with_reducible assumption) | assumption)
             have q107 : x6_3 < (l1_5.length : Int) := of_decide_eq_true (by first | (with_reducible assumption) | assumption)
             obtain ⟨ad107, A107_2, c107_2, A107_5, c107_5, e107, qj, ql, qg, qt, qu, qv, hl107_2, hi107_2, hl107_5, hi107_5⟩ := at_T29 HR1_5.out x6_3 p107 q107
             have hw107_5 := qv
             have hw107_4 := qu
             have hw107_3 := qt
             have hw107_2 := qg
             have hw107_1 := ql
             have hw107_0 := qj
             cases e107
             replace qj := (HB.out.cell (World.block_lt_of_cell? w _ qj)).trans qj
             replace ql := (HB.out.cell (World.block_lt_of_cell? w _ ql)).trans ql
             replace qg := (HB.out.cell (World.block_lt_of_cell? w _ qg)).trans qg
             replace qt := (HB.out.cell (World.block_lt_of_cell? w _ qt)).trans qt
             replace qu := (HB.out.cell (World.block_lt_of_cell? w _ qu)).trans qu
             replace qv := (HB.out.cell (World.block_lt_of_cell? w _ qv)).trans qv
             have HR107_2 := Aside0.mk hi107_2
             have HC107_2 := Aside0.mk hl107_2
             clear hi107_2 hl107_2
             have HR107_5 := Aside0.mk hi107_5
             have HC107_5 := Aside0.mk hl107_5
             clear hi107_5 hl107_5
             replace p107 := eq_true p107
             replace q107 := eq_true q107
             refine start_ (n := 12) (S := fun w' => w'.cell? ⟨ga, 0, none⟩ = some (.int .i64 a0_0) ∧ w'.cell? ⟨ga, 1, none⟩ = some (.string a0_1) ∧ w'.cell? ⟨ga, 2, none⟩ = some (.slice A0_2 l0_2.length c0_2) ∧ w'.cell? ⟨ga, 3, none⟩ = some (.int .i64 a0_3) ∧ w'.cell? ⟨ga, 4, none⟩ = some (.int .i64 a0_4) ∧ w'.cell? ⟨ga, 5, none⟩ = some (.slice (some ad106) l0_5.length c0_5) ∧ w'.cell? ⟨gc, 0, none⟩ = some (.int .i64 a1_0) ∧ w'.cell? ⟨gc, 1, none⟩ = some (.string a1_1) ∧ w'.cell? ⟨gc, 2, none⟩ = some (.slice A1_2 l1_2.length c1_2) ∧ w'.cell? ⟨gc, 3, none⟩ = some (.int .i64 a1_3) ∧ w'.cell? ⟨gc, 4, none⟩ = some (.int .i64 a1_4) ∧ w'.cell? ⟨gc, 5, none⟩ = some (.slice (some ad107) l1_5.length c1_5) ∧ w'.cell? (ad106.add ((x6_3).toNat * 6)) = some (.int .i64 ((rd_T29 l0_5 x6_3).f0)) ∧ w'.cell? ⟨(ad106.add ((x6_3).toNat * 6)).block, (ad106.add ((x6_3).toNat * 6)).off + 1, none⟩ = some (.string ((rd_T29 l0_5 x6_3).f1)) ∧ w'.cell? ⟨(ad106.add ((x6_3).toNat * 6)).block, (ad106.add ((x6_3).toNat * 6)).off + 2, none⟩ = some (.slice A106_2 ((rd_T29 l0_5 x6_3).f2).length c106_2) ∧ w'.cell? ⟨(ad106.add ((x6_3).toNat * 6)).block, (ad106.add ((x6_3).toNat * 6)).off + 3, none⟩ = some (.int .i64 ((rd_T29 l0_5 x6_3).f3)) ∧ w'.cell? ⟨(ad106.add ((x6_3).toNat * 6)).block, (ad106.add ((x6_3).toNat * 6)).off + 4, none⟩ = some (.int .i64 ((rd_T29 l0_5 x6_3).f4)) ∧ w'.cell? ⟨(ad106.add ((x6_3).toNat * 6)).block, (ad106.add ((x6_3).toNat * 6)).off + 5, none⟩ = some (.slice A106_5 ((rd_T29 l0_5 x6_3).f5).length c106_5) ∧ w'.cell? (ad107.add ((x6_3).toNat * 6)) = some (.int .i64 ((rd_T29 l1_5 x6_3).f0)) ∧ w'.cell? ⟨(ad107.add ((x6_3).toNat * 6)).block, (ad107.add ((x6_3).toNat * 6)).off + 1, none⟩ = some (.string ((rd_T29 l1_5 x6_3).f1)) ∧ w'.cell? ⟨(ad107.add ((x6_3).toNat * 6)).block, (ad107.add ((x6_3).toNat * 6)).off + 2, none⟩ = some (.slice A107_2 ((rd_T29 l1_5 x6_3).f2).length c107_2) ∧ w'.cell? ⟨(ad107.add ((x6_3).toNat * 6)).block, (ad107.add ((x6_3).toNat * 6)).off + 3, none⟩ = some (.int .i64 ((rd_T29 l1_5 x6_3).f3)) ∧ w'.cell? ⟨(ad107.add ((x6_3).toNat * 6)).block, (ad107.add ((x6_3).toNat * 6)).off + 4, none⟩ = some (.int .i64 ((rd_T29 l1_5 x6_3).f4)) ∧ w'.cell? ⟨(ad107.add ((x6_3).toNat * 6)).block, (ad107.add ((x6_3).toNat * 6)).off + 5, none⟩ = some (.slice A107_5 ((rd_T29 l1_5 x6_3).f5).length c107_5)) (ds := []) #[false, false, false, false, false, false, false, false, false, false, false, false] (by kernel_rfl) rfl rfl ⟨(jh qq1.out 0).trans rfl, (jh qq1.out 1).trans rfl, (jh qq1.out 2).trans rfl, (jh qq1.out 3).trans rfl, (jh qq1.out 4).trans rfl, (jh qq1.out 5).trans rfl, (jh qo1.out 0).trans rfl, (jh qo1.out 1).trans rfl, (jh qo1.out 2).trans rfl, (jh qo1.out 3).trans rfl, (jh qo1.out 4).trans rfl, (jh qo1.out 5).trans rfl, ((HB.out.cell (World.block_lt_of_cell? w _ hw106_0)).trans hw106_0), ((HB.out.cell (World.block_lt_of_cell? w _ hw106_1)).trans hw106_1), ((HB.out.cell (World.block_lt_of_cell? w _ hw106_2)).trans hw106_2), ((HB.out.cell (World.block_lt_of_cell? w _ hw106_3)).trans hw106_3), ((HB.out.cell (World.block_lt_of_cell? w _ hw106_4)).trans hw106_4), ((HB.out.cell (World.block_lt_of_cell? w _ hw106_5)).trans hw106_5), ((HB.out.cell (World.block_lt_of_cell? w _ hw107_0)).trans hw107_0), ((HB.out.cell (World.block_lt_of_cell? w _ hw107_1)).trans hw107_1), ((HB.out.cell (World.block_lt_of_cell? w _ hw107_2)).trans hw107_2), ((HB.out.cell (World.block_lt_of_cell? w _ hw107_3)).trans hw107_3), ((HB.out.cell (World.block_lt_of_cell? w _ hw107_4)).trans hw107_4), ((HB.out.cell (World.block_lt_of_cell? w _ hw107_5)).trans hw107_5)⟩ (fun hHeld => ?_); refine with_tabW spec_l4Same.tab11 spec_l4Same.bits11 (fun HT_ HW_ => ?_)
             generalize wr.drew = w56 at qq1 qo1 HB HR106_2 HR106_5 HR107_2 HR107_5 qe1 qf1 qk1 qp qm qg1 qj ql qg qt qu qv hHeld ⊢
             refine pure_ (i := 0) (N := some 77) (v := ?_) (a' := ?_) #[true, false, false, false, false, false, false, false, false, false, false, false] rfl rfl (any_of HT_.out (by kernel_rfl)) (fun _ _ _ h => h) (Or.inl ⟨by rfl, ?_⟩) ?_ ?_
             rotate_left
             ·intro w'
              go_simp
              with_reducible rfl
             rotate_left
             ·simp only [Act.put, List.setIfInBounds_toArray, List.set_cons_zero, List.set_cons_succ, i64_w, i32_w]
              rfl
             refine pure_ (i := 2) (N := some 79) (v := ?_) (a' := ?_) #[true, false, true, false, false, false, false, false, false, false, false, false] rfl rfl (any_of HT_.out (by kernel_rfl)) (fun _ _ _ h => h) (Or.inl ⟨by rfl, ?_⟩) ?_ ?_
             rotate_left
             ·intro w'
              go_simp
              with_reducible rfl
             rotate_left
             ·simp only [Act.put, List.setIfInBounds_toArray, List.set_cons_zero, List.set_cons_succ, i64_w, i32_w]
              rfl
             refine pure_ (i := 5) (N := some 82) (v := ?_) (a' := ?_) #[true, false, true, false, false, true, false, false, false, false, false, false] rfl rfl (any_of HT_.out (by kernel_rfl)) (fun _ _ _ h => h) (Or.inl ⟨by rfl, ?_⟩) ?_ ?_
             rotate_left
             ·intro w'
              go_simp
              with_reducible rfl
             rotate_left
             ·simp only [Act.put, List.setIfInBounds_toArray, List.set_cons_zero, List.set_cons_succ, i64_w, i32_w]
              rfl
             refine pure_ (i := 7) (N := some 84) (v := ?_) (a' := ?_) #[true, false, true, false, false, true, false, true, false, false, false, false] rfl rfl (any_of HT_.out (by kernel_rfl)) (fun _ _ _ h => h) (Or.inl ⟨by rfl, ?_⟩) ?_ ?_
             rotate_left
             ·intro w'
              go_simp
              with_reducible rfl
             rotate_left
             ·simp only [Act.put, List.setIfInBounds_toArray, List.set_cons_zero, List.set_cons_succ, i64_w, i32_w]
              rfl
             refine take_ (i := 1) (N := some 78) (v := ?_) (a' := ?_) #[true, true, true, false, false, true, false, true, false, false, false, false] rfl rfl (take_ofW HT_.out HW_.out (by kernel_rfl)) (fun _ _ _ h => h) (Or.inl ⟨by rfl, ?_⟩) hHeld ?_ ?_
             rotate_left
             ·rintro w' ⟨s0, s1, s2, s3, s4, s5, s6, s7, s8, s9, s10, s11, s12, s13, s14, s15, s16, s17, s18, s19, s20, s21, s22, s23⟩
              go_simp
              with_reducible rfl
             rotate_left
             ·simp only [Act.put, List.setIfInBounds_toArray, List.set_cons_zero, List.set_cons_succ, i64_w, i32_w]
              rfl
             refine pure_ (i := 3) (N := some 80) (v := ?_) (a' := ?_) #[true, true, true, true, false, true, false, true, false, false, false, false] rfl rfl (any_of HT_.out (by kernel_rfl)) (fun _ _ _ h => h) (Or.inl ⟨by rfl, ?_⟩) ?_ ?_
             rotate_left
             ·intro w'
              go_simp
              with_reducible rfl
             rotate_left
             ·simp only [Act.put, List.setIfInBounds_toArray, List.set_cons_zero, List.set_cons_succ, i64_w, i32_w]
              rfl
             refine take_ (i := 4) (N := some 81) (v := ?_) (a' := ?_) #[true, true, true, true, true, true, false, true, false, false, false, false] rfl rfl (take_ofW HT_.out HW_.out (by kernel_rfl)) (fun _ _ _ h => h) (Or.inl ⟨by rfl, ?_⟩) hHeld ?_ ?_
             rotate_left
             ·rintro w' ⟨s0, s1, s2, s3, s4, s5, s6, s7, s8, s9, s10, s11, s12, s13, s14, s15, s16, s17, s18, s19, s20, s21, s22, s23⟩
              go_simp
              with_reducible rfl
             rotate_left
             ·simp only [Act.put, List.setIfInBounds_toArray, List.set_cons_zero, List.set_cons_succ, i64_w, i32_w]
              rfl
             refine take_ (i := 6) (N := some 83) (v := ?_) (a' := ?_) #[true, true, true, true, true, true, true, true, false, false, false, false] rfl rfl (take_ofW HT_.out HW_.out (by kernel_rfl)) (fun _ _ _ h => h) (Or.inl ⟨by rfl, ?_⟩) hHeld ?_ ?_
             rotate_left
             ·rintro w' ⟨s0, s1, s2, s3, s4, s5, s6, s7, s8, s9, s10, s11, s12, s13, s14, s15, s16, s17, s18, s19, s20, s21, s22, s23⟩
              go_simp
              with_reducible rfl
             rotate_left
             ·simp only [Act.put, List.setIfInBounds_toArray, List.set_cons_zero, List.set_cons_succ, i64_w, i32_w]
              rfl
             refine pure_ (i := 8) (N := some 85) (v := ?_) (a' := ?_) #[true, true, true, true, true, true, true, true, true, false, false, false] rfl rfl (any_of HT_.out (by kernel_rfl)) (fun _ _ _ h => h) (Or.inl ⟨by rfl, ?_⟩) ?_ ?_
             rotate_left
             ·intro w'
              go_simp
              with_reducible rfl
             rotate_left
             ·simp only [Act.put, List.setIfInBounds_toArray, List.set_cons_zero, List.set_cons_succ, i64_w, i32_w]
              rfl
             refine take_ (i := 9) (N := some 86) (v := ?_) (a' := ?_) #[true, true, true, true, true, true, true, true, true, true, false, false] rfl rfl (take_ofW HT_.out HW_.out (by kernel_rfl)) (fun _ _ _ h => h) (Or.inl ⟨by rfl, ?_⟩) hHeld ?_ ?_
             rotate_left
             ·rintro w' ⟨s0, s1, s2, s3, s4, s5, s6, s7, s8, s9, s10, s11, s12, s13, s14, s15, s16, s17, s18, s19, s20, s21, s22, s23⟩
              go_simp
              with_reducible rfl
             rotate_left
             ·simp only [Act.put, List.setIfInBounds_toArray, List.set_cons_zero, List.set_cons_succ, i64_w, i32_w]
              rfl
             refine one_ (i := 10) (N := some 87) #[true, true, true, true, true, true, true, true, true, true, true, false] rfl rfl (one_of HT_.out (by kernel_rfl)) (by decide) (fun K hK => ?_)
             refine goes_ Try.func18 (by kernel_rfl) rfl #[.agg #[.int .i64 ((rd_T29 l0_5 x6_3).f0), .string ((rd_T29 l0_5 x6_3).f1), .slice A106_2 ((rd_T29 l0_5 x6_3).f2).length c106_2, .int .i64 ((rd_T29 l0_5 x6_3).f3), .int .i64 ((rd_T29 l0_5 x6_3).f4), .slice A106_5 ((rd_T29 l0_5 x6_3).f5).length c106_5], .agg #[.int .i64 ((rd_T29 l1_5 x6_3).f0), .string ((rd_T29 l1_5 x6_3).f1), .slice A107_2 ((rd_T29 l1_5 x6_3).f2).length c107_2, .int .i64 ((rd_T29 l1_5 x6_3).f3), .int .i64 ((rd_T29 l1_5 x6_3).f4), .slice A107_5 ((rd_T29 l1_5 x6_3).f5).length c107_5]] (by rfl) rfl rfl (by (try simp only [List.map_toArray, List.map_cons, List.map_nil]); first | done | rfl | (simp only [List.length_drop, List.length_take]; rfl)) ?_
             with_reducible refine (ih k3 (by have := HJ2.out; have := HK2.out; have := HK3.out; omega) ((rd_T29 l0_5 x6_3).f0) ((rd_T29 l0_5 x6_3).f1) _ _ ((rd_T29 l0_5 x6_3).f2) ((rd_T29 l0_5 x6_3).f3) ((rd_T29 l0_5 x6_3).f4) _ _ ((rd_T29 l0_5 x6_3).f5) ((rd_T29 l1_5 x6_3).f0) ((rd_T29 l1_5 x6_3).f1) _ _ ((rd_T29 l1_5 x6_3).f2) ((rd_T29 l1_5 x6_3).f3) ((rd_T29 l1_5 x6_3).f4) _ _ ((rd_T29 l1_5 x6_3).f5) false _ ?side1 ?side2 ?side3 ?side4 ?side5 ?side6 ?side7 ?side8 A48.out).mono ?_
             (case side1 => repeat (first | exact (Kd.C_below HR106_2.out HB.out) | (with_reducible refine Kd.C_alloc ?_ _) | (with_reducible refine Kd.C_drewN ?_ _) | (with_reducible refine Kd.C_drew ?_)))
             (case side2 => exact HC106_2.out)
             (case side3 => repeat (first | exact (Kd.C_below HR106_5.out HB.out) | (with_reducible refine Kd.C_alloc ?_ _) | (with_reducible refine Kd.C_drewN ?_ _) | (with_reducible refine Kd.C_drew ?_)))
             (case side4 => exact HC106_5.out)
             (case side5 => repeat (first | exact (Kd.C_below HR107_2.out HB.out) | (with_reducible refine Kd.C_alloc ?_ _) | (with_reducible refine Kd.C_drewN ?_ _) | (with_reducible refine Kd.C_drew ?_)))
             (case side6 => exact HC107_2.out)
             (case side7 => repeat (first | exact (Kd.C_below HR107_5.out HB.out) | (with_reducible refine Kd.C_alloc ?_ _) | (with_reducible refine Kd.C_drewN ?_ _) | (with_reducible refine Kd.C_drew ?_)))
             (case side8 => exact HC107_5.out)
             rintro e w57 ⟨rfl, hb⟩
             refine ⟨_, rfl, ?_⟩
             have n0_ := Aside0.mk (jl (g := ga) (o := .cells #[.int .i64 a0_0, .string a0_1, .slice A0_2 l0_2.length c0_2, .int .i64 a0_3, .int .i64 a0_4, .slice (some ad106) l0_5.length c0_5] 29 (0, 0)) (by (with_reducible repeat (first | refine ja ?_ _ | refine jb ?_ | refine jc ?_ _)); exact qq1.out) hb)
             have n1_ := Aside0.mk (jl (g := gc) (o := .cells #[.int .i64 a1_0, .string a1_1, .slice A1_2 l1_2.length c1_2, .int .i64 a1_3, .int .i64 a1_4, .slice (some ad107) l1_5.length c1_5] 29 (0, 0)) (by (with_reducible repeat (first | refine ja ?_ _ | refine jb ?_ | refine jc ?_ _)); exact qo1.out) hb)
             have n2_ := Aside0.mk (below_step (by repeat (first | (with_reducible first | exact HB.out | apply js | apply jt | apply ju | refine jj ?_ qn1.out | refine jj ?_ qp1.out) | exact HB.out)) hb)
             clear qq1
             clear qo1
             clear HB
             have qq1 := n0_
             have qo1 := n1_
             have HB := n2_
             clear n0_ n1_ n2_
             (try clear hb)
             (try clear hb2)
             (try clear hk)
             (try clear hi)
             refine hK.out _ _ ⟨(jh qq1.out 0).trans rfl, (jh qq1.out 1).trans rfl, (jh qq1.out 2).trans rfl, (jh qq1.out 3).trans rfl, (jh qq1.out 4).trans rfl, (jh qq1.out 5).trans rfl, (jh qo1.out 0).trans rfl, (jh qo1.out 1).trans rfl, (jh qo1.out 2).trans rfl, (jh qo1.out 3).trans rfl, (jh qo1.out 4).trans rfl, (jh qo1.out 5).trans rfl, ((HB.out.cell (World.block_lt_of_cell? w _ hw106_0)).trans hw106_0), ((HB.out.cell (World.block_lt_of_cell? w _ hw106_1)).trans hw106_1), ((HB.out.cell (World.block_lt_of_cell? w _ hw106_2)).trans hw106_2), ((HB.out.cell (World.block_lt_of_cell? w _ hw106_3)).trans hw106_3), ((HB.out.cell (World.block_lt_of_cell? w _ hw106_4)).trans hw106_4), ((HB.out.cell (World.block_lt_of_cell? w _ hw106_5)).trans hw106_5), ((HB.out.cell (World.block_lt_of_cell? w _ hw107_0)).trans hw107_0), ((HB.out.cell (World.block_lt_of_cell? w _ hw107_1)).trans hw107_1), ((HB.out.cell (World.block_lt_of_cell? w _ hw107_2)).trans hw107_2), ((HB.out.cell (World.block_lt_of_cell? w _ hw107_3)).trans hw107_3), ((HB.out.cell (World.block_lt_of_cell? w _ hw107_4)).trans hw107_4), ((HB.out.cell (World.block_lt_of_cell? w _ hw107_5)).trans hw107_5)⟩ (fun hHeld => ?_)
             clear hK K
             refine norm_ (a' := ?_) ?_ ?_
             rotate_left
             ·show Act.put _ (some 87) _ = _
              simp only [Act.put, List.setIfInBounds_toArray, List.set_cons_zero, List.set_cons_succ, i64_w, i32_w]
              rfl
             refine pure_ (i := 11) (N := some 88) (v := ?_) (a' := ?_) #[true, true, true, true, true, true, true, true, true, true, true, true] rfl rfl (any_of HT_.out (by kernel_rfl)) (fun _ _ _ h => h) (Or.inl ⟨by rfl, ?_⟩) ?_ ?_
             rotate_left
             ·intro w'
              go_simp
              with_reducible rfl
             rotate_left
             ·simp only [Act.put, List.setIfInBounds_toArray, List.set_cons_zero, List.set_cons_succ, i64_w, i32_w]
              rfl
             refine done_ (done_of HT_.out (by kernel_rfl)) ?_
             try go_wp2
             go_ret
             exact ⟨by first | rfl | (simp [errW_none, errW_some] <;> rfl) | (simp [*, errW_none, errW_some] <;> rfl) | (simp only [Bool.and_eq_true, beq_iff_eq, Bool.not_eq_true', Bool.not_eq_eq_eq_not, Bool.not_true, Bool.not_false] at *; simp [*]), by repeat (first | (with_reducible first | exact HB.out | apply js | apply jt | apply ju | refine jj ?_ qn1.out | refine jj ?_ qp1.out) | exact HB.out)⟩
           ·rw [if_neg c47] at H
            exact absurd H (by simp)
          ·rw [if_neg c46] at H
           exact absurd H (by simp)
         ·rw [if_neg c45] at H
          have c45b0 : decide (x6_3 < (l0_5.length : Int)) = false := decide_eq_false c45
          clear c45
          obtain rfl := Option.some.inj H
          have hnb58 := qa.out
          have hnc58 := qb.out
          have hcz59_0 : wr.cell? ⟨ga, 0, none⟩ = some (.int .i64 a0_0) := (jh qq1.out 0).trans rfl
          have hcz59_1 : wr.cell? ⟨ga, 1, none⟩ = some (.string a0_1) := (jh qq1.out 1).trans rfl
          have hcz59_2 : wr.cell? ⟨ga, 2, none⟩ = some (.slice A0_2 l0_2.length c0_2) := (jh qq1.out 2).trans rfl
          have hcz59_3 : wr.cell? ⟨ga, 3, none⟩ = some (.int .i64 a0_3) := (jh qq1.out 3).trans rfl
          have hcz59_4 : wr.cell? ⟨ga, 4, none⟩ = some (.int .i64 a0_4) := (jh qq1.out 4).trans rfl
          have hcz59_5 : wr.cell? ⟨ga, 5, none⟩ = some (.slice A0_5 l0_5.length c0_5) := (jh qq1.out 5).trans rfl
          have hfz59_0 := ji qq1.out 0
          have hfz59_1 := ji qq1.out 1
          have hfz59_2 := ji qq1.out 2
          have hfz59_3 := ji qq1.out 3
          have hfz59_4 := ji qq1.out 4
          have hfz59_5 := ji qq1.out 5
          go_wp2
          go_ret
          exact ⟨by first | rfl | (simp [errW_none, errW_some] <;> rfl) | (simp [*, errW_none, errW_some] <;> rfl) | (simp only [Bool.and_eq_true, beq_iff_eq, Bool.not_eq_true', Bool.not_eq_eq_eq_not, Bool.not_true, Bool.not_false] at *; simp [*]), by repeat (first | (with_reducible first | exact HB.out | apply js | apply jt | apply ju | refine jj ?_ qn1.out | refine jj ?_ qp1.out) | exact HB.out)⟩

end Go.Proofs.Ytjiidjlmdibhdaa.P
