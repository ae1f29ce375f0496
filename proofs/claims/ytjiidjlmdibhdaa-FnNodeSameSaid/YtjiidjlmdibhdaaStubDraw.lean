/- A drawn node and a drawn struct: the two functions that call each other. Printed one at a time, each with the other told from outside, and joined by mkdraw.py. Not trusted: Lean checks it. -/
import Derived.Test.YtjiidjlmdibhdaaPx0
import Derived.Test.YtjiidjlmdibhdaaPx3
import Derived.Test.YtjiidjlmdibhdaaPx4
import Derived.Test.YtjiidjlmdibhdaaPx6
namespace Go.Proofs.Ytjiidjlmdibhdaa.P
open Go.RowKit Go.Proofs.YtjiidjlmdibhdaaW.PrintWords Go.Proofs.YtjiidjlmdibhdaaW.PrintLast Go.Proofs.YtjiidjlmdibhdaaW.PrintMore
attribute [local go_sem] max2_int min2_int max_two min_two max_three min_three max_four min_four
set_option linter.unusedVariables false
set_option linter.unusedSimpArgs false
mutual
def spec_l13Node.l0 : Nat → Int → Int → List Int → Int → Int → ByteArray → List (S29) → Int → Int → Option (Int × ByteArray × (List (S29)) × Int × Int × (List (S29)) × Int)
 | 0, _, _, _, _, _, _, _, _, _ => none
 | k + 1, x1, x6, x1000, x1001, qx, qg1, qa1, qz, qi1 => if x6 > 0 then ((spec_l13Node.f k x1000 x1001 (wrap64 (x1 - 1))).bind fun bt181 => (if qa1.length < 1599289640401 then (spec_l13Node.l0 k x1 (wrap64 (x6 - 1)) x1000 bt181.2.2.2.2.2.2 qx qg1 (qa1 ++ [(⟨bt181.1, bt181.2.1, bt181.2.2.1, bt181.2.2.2.1, bt181.2.2.2.2.1, bt181.2.2.2.2.2.1⟩ : S29)]) qz qi1) else (none))) else (some (qx, qg1, qa1, qz, (qa1.length : Int), ([] : List (S29)), x1001))
def spec_l13Node.l1 : Nat → Int → Int → Int → Int → List Int → Int → Int → ByteArray → Int → Int → List (S29) → Option (Int × ByteArray × (List (S29)) × Int × Int × (List (S29)) × Int)
 | 0, _, _, _, _, _, _, _, _, _, _, _ => none
 | k + 1, x1, x8, x9, x10, x1000, x1001, qc1, qj1, qn, qo, qv => if x10 > 0 then ((spec_l13Struct.l0 k x8 x9 x1 0 x1000 x1001 1 (⟨#[]⟩ : ByteArray) 0 0).bind fun bt202 => (if qv.length < 1599289640401 then (spec_l13Node.l1 k x1 x8 x9 (wrap64 (x10 - 1)) x1000 bt202.2.2.2.2.2.2 qc1 qj1 qn qo (qv ++ [(⟨bt202.1, bt202.2.1, bt202.2.2.1, bt202.2.2.2.1, bt202.2.2.2.2.1, bt202.2.2.2.2.2.1⟩ : S29)])) else (none))) else (some (qc1, qj1, ([] : List (S29)), qn, (qv.length : Int), qv, x1001))
def spec_l13Node.f : Nat → List Int → Int → Int → Option (Int × ByteArray × (List (S29)) × Int × Int × (List (S29)) × Int)
 | 0, _, _, _ => none
 | k + 1, s0_0, s0_1, a1 => if a1 < 1 then (some (0, (⟨#[]⟩ : ByteArray), ([] : List (S29)), 0, 0, ([] : List (S29)), s0_1)) else ((spec_l1Rd_pick.f k s0_0 s0_1 6).bind fun bt165 => (if bt165.1 = 0 then (some (0, (⟨#[]⟩ : ByteArray), ([] : List (S29)), 0, 0, ([] : List (S29)), bt165.2)) else (if bt165.1 = 1 then ((spec_l13List.f k s0_0 bt165.2).bind fun bt167 => (some (bt167.1, bt167.2.1, bt167.2.2.1, bt167.2.2.2.1, bt167.2.2.2.2.1, bt167.2.2.2.2.2.1, bt167.2.2.2.2.2.2))) else (if bt165.1 = 2 then ((spec_l1Rd_pick.f k s0_0 bt165.2 4).bind fun bt179 => (spec_l13Node.l0 k a1 bt179.1 s0_0 bt179.2 2 (⟨#[]⟩ : ByteArray) ([] : List (S29)) 6 0)) else (if bt165.1 = 3 then ((spec_l1Rd_pick.f k s0_0 bt165.2 3).bind fun bt196 => ((spec_l1Rd_pick.f k s0_0 bt196.2 3).bind fun bt198 => ((spec_l1Rd_pick.f k s0_0 bt198.2 4).bind fun bt200 => (spec_l13Node.l1 k a1 bt196.1 bt198.1 bt200.1 s0_0 bt200.2 2 (⟨#[]⟩ : ByteArray) 7 0 ([] : List (S29)))))) else ((spec_l1Rd_pick.f k s0_0 bt165.2 4).bind fun bt216 => ((spec_l1Rd_pick.f k s0_0 bt216.2 4).bind fun bt218 => ((spec_l13Struct.l0 k bt216.1 bt218.1 a1 0 s0_0 bt218.2 1 (⟨#[]⟩ : ByteArray) 0 0).bind fun bt220 => (some (bt220.1, bt220.2.1, bt220.2.2.1, bt220.2.2.2.1, bt220.2.2.2.2.1, bt220.2.2.2.2.2.1, bt220.2.2.2.2.2.2))))))))))
def spec_l13Struct.l0 : Nat → Int → Int → Int → Int → List Int → Int → Int → ByteArray → Int → Int → Option (Int × ByteArray × (List (S29)) × Int × Int × (List (S29)) × Int)
 | 0, _, _, _, _, _, _, _, _, _, _ => none
 | k + 1, x1, x2, x3, x10, x1000, x1001, qy, qh1, qf1, qe1 => if x10 < x1 then ((spec_l13Word.f k x1000 x1001).bind fun bt166 => (if qh1.size + bt166.1.size ≤ 9223372036854775807 then (spec_l13Struct.l0 k x1 x2 x3 (wrap64 (x10 + 1)) x1000 bt166.2 qy (qh1 ++ bt166.1) qf1 qe1) else (none))) else (spec_l13Struct.l1 k x2 x3 0 x1000 x1001 qy qh1 ([] : List (S29)) qf1 qe1)
def spec_l13Struct.l1 : Nat → Int → Int → Int → List Int → Int → Int → ByteArray → List (S29) → Int → Int → Option (Int × ByteArray × (List (S29)) × Int × Int × (List (S29)) × Int)
 | 0, _, _, _, _, _, _, _, _, _, _ => none
 | k + 1, x2, x3, x11, x1000, x1001, qy, qh1, qw, qf1, qe1 => if x11 < x2 then ((spec_l13Node.f k x1000 x1001 (wrap64 (x3 - 1))).bind fun bt168 => (if qw.length < 1599289640401 then (spec_l13Struct.l1 k x2 x3 (wrap64 (x11 + 1)) x1000 bt168.2.2.2.2.2.2 qy qh1 (qw ++ [(⟨bt168.1, bt168.2.1, bt168.2.2.1, bt168.2.2.2.1, bt168.2.2.2.2.1, bt168.2.2.2.2.2.1⟩ : S29)]) qf1 qe1) else (none))) else (some (qy, qh1, qw, qf1, qe1, ([] : List (S29)), x1001))
end
def spec_l13Struct.f (k : Nat) (s0_0 : List Int) (s0_1 : Int) (a1 : Int) (a2 : Int) (a3 : Int) : Option (Int × ByteArray × (List (S29)) × Int × Int × (List (S29)) × Int) := spec_l13Struct.l0 k a1 a2 a3 0 s0_0 s0_1 1 (⟨#[]⟩ : ByteArray) 0 0
theorem draw_mono_l : ∀ k, (∀ y0 y1 y2, LeO (spec_l13Node.f k y0 y1 y2) (spec_l13Node.f (k + 1) y0 y1 y2)) ∧ (∀ y0 y1 y2 y3 y4 y5 y6 y7 y8, LeO (spec_l13Node.l0 k y0 y1 y2 y3 y4 y5 y6 y7 y8) (spec_l13Node.l0 (k + 1) y0 y1 y2 y3 y4 y5 y6 y7 y8)) ∧ (∀ y0 y1 y2 y3 y4 y5 y6 y7 y8 y9 y10, LeO (spec_l13Node.l1 k y0 y1 y2 y3 y4 y5 y6 y7 y8 y9 y10) (spec_l13Node.l1 (k + 1) y0 y1 y2 y3 y4 y5 y6 y7 y8 y9 y10)) ∧ (∀ y0 y1 y2 y3 y4 y5 y6 y7 y8 y9, LeO (spec_l13Struct.l0 k y0 y1 y2 y3 y4 y5 y6 y7 y8 y9) (spec_l13Struct.l0 (k + 1) y0 y1 y2 y3 y4 y5 y6 y7 y8 y9)) ∧ (∀ y0 y1 y2 y3 y4 y5 y6 y7 y8 y9, LeO (spec_l13Struct.l1 k y0 y1 y2 y3 y4 y5 y6 y7 y8 y9) (spec_l13Struct.l1 (k + 1) y0 y1 y2 y3 y4 y5 y6 y7 y8 y9))
 | 0 => ⟨fun _ _ _ r h => by simp [spec_l13Node.f] at h, fun _ _ _ _ _ _ _ _ _ r h => by simp [spec_l13Node.l0] at h, fun _ _ _ _ _ _ _ _ _ _ _ r h => by simp [spec_l13Node.l1] at h, fun _ _ _ _ _ _ _ _ _ _ r h => by simp [spec_l13Struct.l0] at h, fun _ _ _ _ _ _ _ _ _ _ r h => by simp [spec_l13Struct.l1] at h⟩
 | k + 1 => by
  obtain ⟨ih0, ih1, ih2, ih3, ih4⟩ := draw_mono_l k
  refine ⟨?_, ?_, ?_, ?_, ?_⟩
  ·intro y0 y1 y2
   unfold spec_l13Node.f
   repeat' first
   | (with_reducible exact ih0 _ _ _)
   | (with_reducible exact ih1 _ _ _ _ _ _ _ _ _)
   | (with_reducible exact ih2 _ _ _ _ _ _ _ _ _ _ _)
   | (with_reducible exact ih3 _ _ _ _ _ _ _ _ _ _)
   | (with_reducible exact ih4 _ _ _ _ _ _ _ _ _ _)
   | (with_reducible exact spec_l13List.mono _ _ _)
   | (with_reducible exact spec_l13Word.mono _ _ _)
   | (with_reducible exact spec_l1Rd_pick.mono _ _ _ _)
   | (with_reducible exact LeO.refl _)
   | (with_reducible exact LeO.none _)
   | (with_reducible refine LeO.ite ?_ ?_)
   | (with_reducible refine LeO.bind ?_ (fun _ => ?_))
  ·intro y0 y1 y2 y3 y4 y5 y6 y7 y8
   unfold spec_l13Node.l0
   repeat' first
   | (with_reducible exact ih0 _ _ _)
   | (with_reducible exact ih1 _ _ _ _ _ _ _ _ _)
   | (with_reducible exact ih2 _ _ _ _ _ _ _ _ _ _ _)
   | (with_reducible exact ih3 _ _ _ _ _ _ _ _ _ _)
   | (with_reducible exact ih4 _ _ _ _ _ _ _ _ _ _)
   | (with_reducible exact spec_l13List.mono _ _ _)
   | (with_reducible exact spec_l13Word.mono _ _ _)
   | (with_reducible exact spec_l1Rd_pick.mono _ _ _ _)
   | (with_reducible exact LeO.refl _)
   | (with_reducible exact LeO.none _)
   | (with_reducible refine LeO.ite ?_ ?_)
   | (with_reducible refine LeO.bind ?_ (fun _ => ?_))
  ·intro y0 y1 y2 y3 y4 y5 y6 y7 y8 y9 y10
   unfold spec_l13Node.l1
   repeat' first
   | (with_reducible exact ih0 _ _ _)
   | (with_reducible exact ih1 _ _ _ _ _ _ _ _ _)
   | (with_reducible exact ih2 _ _ _ _ _ _ _ _ _ _ _)
   | (with_reducible exact ih3 _ _ _ _ _ _ _ _ _ _)
   | (with_reducible exact ih4 _ _ _ _ _ _ _ _ _ _)
   | (with_reducible exact spec_l13List.mono _ _ _)
   | (with_reducible exact spec_l13Word.mono _ _ _)
   | (with_reducible exact spec_l1Rd_pick.mono _ _ _ _)
   | (with_reducible exact LeO.refl _)
   | (with_reducible exact LeO.none _)
   | (with_reducible refine LeO.ite ?_ ?_)
   | (with_reducible refine LeO.bind ?_ (fun _ => ?_))
  ·intro y0 y1 y2 y3 y4 y5 y6 y7 y8 y9
   unfold spec_l13Struct.l0
   repeat' first
   | (with_reducible exact ih0 _ _ _)
   | (with_reducible exact ih1 _ _ _ _ _ _ _ _ _)
   | (with_reducible exact ih2 _ _ _ _ _ _ _ _ _ _ _)
   | (with_reducible exact ih3 _ _ _ _ _ _ _ _ _ _)
   | (with_reducible exact ih4 _ _ _ _ _ _ _ _ _ _)
   | (with_reducible exact spec_l13List.mono _ _ _)
   | (with_reducible exact spec_l13Word.mono _ _ _)
   | (with_reducible exact spec_l1Rd_pick.mono _ _ _ _)
   | (with_reducible exact LeO.refl _)
   | (with_reducible exact LeO.none _)
   | (with_reducible refine LeO.ite ?_ ?_)
   | (with_reducible refine LeO.bind ?_ (fun _ => ?_))
  ·intro y0 y1 y2 y3 y4 y5 y6 y7 y8 y9
   unfold spec_l13Struct.l1
   repeat' first
   | (with_reducible exact ih0 _ _ _)
   | (with_reducible exact ih1 _ _ _ _ _ _ _ _ _)
   | (with_reducible exact ih2 _ _ _ _ _ _ _ _ _ _ _)
   | (with_reducible exact ih3 _ _ _ _ _ _ _ _ _ _)
   | (with_reducible exact ih4 _ _ _ _ _ _ _ _ _ _)
   | (with_reducible exact spec_l13List.mono _ _ _)
   | (with_reducible exact spec_l13Word.mono _ _ _)
   | (with_reducible exact spec_l1Rd_pick.mono _ _ _ _)
   | (with_reducible exact LeO.refl _)
   | (with_reducible exact LeO.none _)
   | (with_reducible refine LeO.ite ?_ ?_)
   | (with_reducible refine LeO.bind ?_ (fun _ => ?_))
theorem spec_l13Node.mono : ∀ a0 a1 a2 k, LeO (spec_l13Node.f k a0 a1 a2) (spec_l13Node.f (k + 1) a0 a1 a2) := fun a0 a1 a2 k => (draw_mono_l k).1 a0 a1 a2
abbrev NodeC (k : Nat) : Prop := ∀ (g : Nat) (s0_0 : List Int) (s0_1 : Int) (a1 : Int) (r1 : Int) (r2 : ByteArray) (r3 : List (S29)) (r4 : Int) (r5 : Int) (r6 : List (S29)) (r7 : Int) (w0 w : World) (hI : IsS51 w0 w g s0_0 s0_1) (hB : Below w0.heap.size w0 w) (h : spec_l13Node.f k s0_0 s0_1 a1 = some (r1, r2, r3, r4, r5, r6, r7)),
  Calls Try.prog 30 #[.pointer (some ⟨g, 0, none⟩), .int .i64 a1] w fun e w' => ∃ v2_ v5_ : Value, e = .returned (.agg #[.int .i64 r1, .string r2, v2_, .int .i64 r4, .int .i64 r5, v5_]) ∧ Kd.R k29 29 w' w.heap.size (fun k_ => some k_ ≠ (v5_ : Value).ownBlock) v2_ r3 ∧ Kd.R k29 29 w' w.heap.size (fun k_ => some k_ ≠ (v2_ : Value).ownBlock) v5_ r6 ∧ IsS51 w0 w' g s0_0 r7 ∧ Below w0.heap.size w0 w' ∧ KeepBut w w' g none
def spec_l13Struct.T9 : Bool × List (List Nat × List Nat) := (true, [([], []), ([0], [0]), ([], []), ([], []), ([3], [3]), ([2, 4], [2, 4]), ([5], [5]), ([1, 6, 5], [1, 6]), ([0, 1, 2, 3, 4, 5, 6, 7], []), ([8, 7, 7, 0, 1, 2, 3, 4, 5, 6, 7], [7, 8])])
def spec_l13Struct.B9 : List Nat := [0, 1, 0, 0, 8, 28, 60, 127, 255, 511]
theorem spec_l13Struct.tab9 : rtab .any (opsOf Try.f37 9) = spec_l13Struct.T9 := by kernel_rfl
theorem spec_l13Struct.bits9 : waitsOk spec_l13Struct.T9.2 spec_l13Struct.B9 = true := by kernel_rfl
open Go.Proofs.YtjiidjlmdibhdaaW.PrintWords renaming blk_drewN → ja, blk_drew → jb, blk_alloc → jc, keep_drewN → jd, keep_drew → je, keep_alloc → jf, blk_cell → jh, blk_frozen → ji, below_set → jj, blk_far → jk, blk_below → jl, blk_put → jm, below_alloc → js, pw_below_drewN → jt, below_drew1 → ju
open Go.Proofs.YtjiidjlmdibhdaaW.PrintWords.KeepBut renaming set_ → jg
open IsS51 renaming alloc → jn, drewN → jo, drew → jp, set_1 → jq, far → jr, ge → jv
set_option maxHeartbeats 8000000 in
set_option maxRecDepth 100000 in
theorem spec_l13Struct.callsK (k : Nat) (HN : ∀ m, m < k → NodeC m) (g : Nat) (s0_0 : List Int) (s0_1 : Int) (a1 : Int) (a2 : Int) (a3 : Int) (r1 : Int) (r2 : ByteArray) (r3 : List (S29)) (r4 : Int) (r5 : Int) (r6 : List (S29)) (r7 : Int) (w0 w : World) (hI : IsS51 w0 w g s0_0 s0_1) (hB : Below w0.heap.size w0 w) (h : spec_l13Struct.f k s0_0 s0_1 a1 a2 a3 = some (r1, r2, r3, r4, r5, r6, r7)) :
  Calls Try.prog 37 #[.pointer (some ⟨g, 0, none⟩), .int .i64 a1, .int .i64 a2, .int .i64 a3] w fun e w' => ∃ v2_ v5_ : Value, e = .returned (.agg #[.int .i64 r1, .string r2, v2_, .int .i64 r4, .int .i64 r5, v5_]) ∧ Kd.R k29 29 w' w.heap.size (fun k_ => some k_ ≠ (v5_ : Value).ownBlock) v2_ r3 ∧ Kd.R k29 29 w' w.heap.size (fun k_ => some k_ ≠ (v2_ : Value).ownBlock) v5_ r6 ∧ IsS51 w0 w' g s0_0 r7 ∧ Below w0.heap.size w0 w' ∧ KeepBut w w' g none := by
 have hu29 := Try.underlying29
 have HNN := Aside0.mk HN
 clear HN
 have HI0 := Aside0.mk hI
 have HK := Aside0.mk (KeepBut.refl w g none)
 have HL := Aside0.mk hB.size
 clear hI
 have HW0 := Aside0.mk hB.size
 have HB := Aside0.mk hB
 clear hB
 have H : (spec_l13Struct.l0 k a1 a2 a3 0 s0_0 s0_1 1 (⟨#[]⟩ : ByteArray) 0 0) = some (r1, r2, r3, r4, r5, r6, r7) := h
 clear h
 have H' := Aside0.mk H
 clear H
 go_enter Try.func37, Try.ntmps37
 go_wp2_with (first | ((with_reducible refine gate_dst (N := 8) rfl ?_); refine box_event ?hg (N := 8) ?hd (cs := #[.int .i64 0, .string (⟨#[]⟩ : ByteArray), .slice none 0 0, .int .i64 0, .int .i64 0, .slice none 0 0]) (t := 29) ?hr ?_; (case hd => rfl); (case hg => rfl); (case hr => first | (go_simp; done) | (go_simp; rfl)); intro ga hg w5 hbox hb; have n0_ := Aside0.mk (IsS51.below (by repeat (first | (with_reducible first | exact HI0.out | apply jn | apply jo | apply jp | apply jq) | exact HI0.out)) hb); have n1_ := Aside0.mk (KeepBut.trans (by repeat (first | (with_reducible first | exact HK.out | apply jg | apply jd | apply je | apply jf) | exact HK.out)) (KeepBut.of_below hb g none) (.inl rfl)); have n2_ := Aside0.mk (below_step (by repeat (first | (with_reducible first | exact HB.out | apply js | apply jt | apply ju | refine jj ?_ (jv HI0.out)) | exact HB.out)) hb); have n3_ := Aside0.mk (hbox); have n4_ := Aside0.mk ((by rw [hg]; exact (keep_size (w := w) (g := g) (row := none) (by repeat (first | (with_reducible first | exact HK.out | apply jg | apply jd | apply je | apply jf) | exact HK.out))) : w.heap.size ≤ ga)); have n5_ := Aside0.mk ((Nat.le_trans HW0.out (by rw [hg]; exact (keep_size (w := w) (g := g) (row := none) (by repeat (first | (with_reducible first | exact HK.out | apply jg | apply jd | apply je | apply jf) | exact HK.out))) : w.heap.size ≤ ga) : w0.heap.size ≤ ga)); have n6_ := Aside0.mk ((by rw [hg]; exact Nat.ne_of_lt (IsS51.lt (show IsS51 w0 _ g s0_0 s0_1 from by repeat (first | (with_reducible first | exact HI0.out | apply jn | apply jo | apply jp | apply jq) | exact HI0.out))) : g ≠ ga)); have n7_ := Aside0.mk ((by rw [hg]; exact Nat.ne_of_gt (IsS51.lt (show IsS51 w0 _ g s0_0 s0_1 from by repeat (first | (with_reducible first | exact HI0.out | apply jn | apply jo | apply jp | apply jq) | exact HI0.out))) : ga ≠ g)); clear HI0; clear HK; clear HB; have HI0 := n0_; have HK := n1_; have HB := n2_; have qn1 := n3_; have ql1 := n4_; have qm1 := n5_; have qp := n6_; have qt := n7_; clear n0_ n1_ n2_ n3_ n4_ n5_ n6_ n7_; clear hb hbox hg) | ((with_reducible refine gate_dst (N := 9) rfl ?_); refine box_event ?hg (N := 9) ?hd (cs := #[.int .i64 0, .string (⟨#[]⟩ : ByteArray), .slice none 0 0, .int .i64 0, .int .i64 0, .slice none 0 0]) (t := 29) ?hr ?_; (case hd => rfl); (case hg => rfl); (case hr => first | (go_simp; done) | (go_simp; rfl)); intro gc hg w6 hbox hb; have n0_ := Aside0.mk (IsS51.below (by repeat (first | (with_reducible first | exact HI0.out | apply jn | apply jo | apply jp | apply jq | refine jr ?_ qp.out _) | exact HI0.out)) hb); have n1_ := Aside0.mk (jl (g := ga) (o := .cells #[.int .i64 0, .string (⟨#[]⟩ : ByteArray), .slice none 0 0, .int .i64 0, .int .i64 0, .slice none 0 0] 29 (0, 0)) (by (with_reducible repeat (first | refine ja ?_ _ | refine jb ?_ | refine jc ?_ _)); exact qn1.out) hb); have n2_ := Aside0.mk (KeepBut.trans (by repeat (first | (with_reducible first | exact HK.out | apply jg | apply jd | apply je | apply jf | refine keep_far ?_ ql1.out _) | exact HK.out)) (KeepBut.of_below hb g none) (.inl rfl)); have n3_ := Aside0.mk (below_step (by repeat (first | (with_reducible first | exact HB.out | apply js | apply jt | apply ju | refine jj ?_ (jv HI0.out) | refine jj ?_ qm1.out) | exact HB.out)) hb); have n4_ := Aside0.mk (hbox); have n5_ := Aside0.mk ((by rw [hg]; exact (keep_size (w := w) (g := g) (row := none) (by repeat (first | (with_reducible first | exact HK.out | apply jg | apply jd | apply je | apply jf | refine keep_far ?_ ql1.out _) | exact HK.out))) : w.heap.size ≤ gc)); have n6_ := Aside0.mk ((Nat.le_trans HW0.out (by rw [hg]; exact (keep_size (w := w) (g := g) (row := none) (by repeat (first | (with_reducible first | exact HK.out | apply jg | apply jd | apply je | apply jf | refine keep_far ?_ ql1.out _) | exact HK.out))) : w.heap.size ≤ gc) : w0.heap.size ≤ gc)); have n7_ := Aside0.mk ((by rw [hg]; exact Nat.ne_of_lt (blk_lt (g := ga) (o := .cells #[.int .i64 0, .string (⟨#[]⟩ : ByteArray), .slice none 0 0, .int .i64 0, .int .i64 0, .slice none 0 0] 29 (0, 0)) (by (with_reducible repeat (first | refine ja ?_ _ | refine jb ?_ | refine jc ?_ _)); exact qn1.out)) : ga ≠ gc)); have n8_ := Aside0.mk ((by rw [hg]; exact Nat.ne_of_gt (blk_lt (g := ga) (o := .cells #[.int .i64 0, .string (⟨#[]⟩ : ByteArray), .slice none 0 0, .int .i64 0, .int .i64 0, .slice none 0 0] 29 (0, 0)) (by (with_reducible repeat (first | refine ja ?_ _ | refine jb ?_ | refine jc ?_ _)); exact qn1.out)) : gc ≠ ga)); have n9_ := Aside0.mk ((by rw [hg]; exact Nat.ne_of_lt (IsS51.lt (show IsS51 w0 _ g s0_0 s0_1 from by repeat (first | (with_reducible first | exact HI0.out | apply jn | apply jo | apply jp | apply jq | refine jr ?_ qp.out _) | exact HI0.out))) : g ≠ gc)); have n10_ := Aside0.mk ((by rw [hg]; exact Nat.ne_of_gt (IsS51.lt (show IsS51 w0 _ g s0_0 s0_1 from by repeat (first | (with_reducible first | exact HI0.out | apply jn | apply jo | apply jp | apply jq | refine jr ?_ qp.out _) | exact HI0.out))) : gc ≠ g)); clear HI0; clear qn1; clear HK; clear HB; have HI0 := n0_; have qn1 := n1_; have HK := n2_; have HB := n3_; have qq1 := n4_; have qr1 := n5_; have qv1 := n6_; have qd := n7_; have qa := n8_; have qs := n9_; have qq := n10_; clear n0_ n1_ n2_ n3_ n4_ n5_ n6_ n7_ n8_ n9_ n10_; clear hb hbox hg; have hnb7 := qa.out; have hnc7 := qd.out; have hnb8 := qq.out; have hnc8 := qs.out; have hcz9_0 : w6.cell? ⟨gc, 0, none⟩ = some (.int .i64 0) := (jh qq1.out 0).trans rfl; have hcz9_1 : w6.cell? ⟨gc, 1, none⟩ = some (.string (⟨#[]⟩ : ByteArray)) := (jh qq1.out 1).trans rfl; have hcz9_2 : w6.cell? ⟨gc, 2, none⟩ = some (.slice none 0 0) := (jh qq1.out 2).trans rfl; have hcz9_3 : w6.cell? ⟨gc, 3, none⟩ = some (.int .i64 0) := (jh qq1.out 3).trans rfl; have hcz9_4 : w6.cell? ⟨gc, 4, none⟩ = some (.int .i64 0) := (jh qq1.out 4).trans rfl; have hcz9_5 : w6.cell? ⟨gc, 5, none⟩ = some (.slice none 0 0) := (jh qq1.out 5).trans rfl; have hfz9_0 := ji qq1.out 0; have hfz9_1 := ji qq1.out 1; have hfz9_2 := ji qq1.out 2; have hfz9_3 := ji qq1.out 3; have hfz9_4 := ji qq1.out 4; have hfz9_5 := ji qq1.out 5))
 go_loopg [10] k (fun kq v10 w' => ∃ (x10_1 : Int) (x1001_1 : Int) (qi : ByteArray), v10 = .int .i64 x10_1 ∧ Aside0 (spec_l13Struct.l0 kq a1 a2 a3 x10_1 s0_0 x1001_1 1 qi 0 0 = some (r1, r2, r3, r4, r5, r6, r7)) ∧ Aside0 (kq ≤ k) ∧ Aside0 (w'.heap[ga]? = some (.cells #[.int .i64 0, .string (⟨#[]⟩ : ByteArray), (.slice none 0 0), .int .i64 0, .int .i64 0, (.slice none 0 0)] 29 (0, 0))) ∧ Aside0 (w'.heap[gc]? = some (.cells #[.int .i64 1, .string qi, (.slice none 0 0), .int .i64 0, .int .i64 0, (.slice none 0 0)] 29 (0, 0))) ∧ Aside0 (IsS51 w0 w' g s0_0 x1001_1) ∧ Aside0 (KeepBut w w' g none) ∧ Aside0 (Below w0.heap.size w0 w'))
 case atStart => exact ⟨(0), (s0_1), ((⟨#[]⟩ : ByteArray)), (by first | rfl | (simp; done) | (simp [*]; done)), H', ⟨Nat.le_refl _⟩, ⟨by (with_reducible repeat (first | refine ja ?_ _ | refine jb ?_ | refine jc ?_ _)); refine jk ?_ qd.out _; (with_reducible repeat (first | refine ja ?_ _ | refine jb ?_ | refine jc ?_ _)); refine jk ?_ qd.out _; (with_reducible repeat (first | refine ja ?_ _ | refine jb ?_ | refine jc ?_ _)); refine jk ?_ qd.out _; (with_reducible repeat (first | refine ja ?_ _ | refine jb ?_ | refine jc ?_ _)); refine jk ?_ qd.out _; (with_reducible repeat (first | refine ja ?_ _ | refine jb ?_ | refine jc ?_ _)); refine jk ?_ qd.out _; (with_reducible repeat (first | refine ja ?_ _ | refine jb ?_ | refine jc ?_ _)); refine jk ?_ qd.out _; (with_reducible repeat (first | refine ja ?_ _ | refine jb ?_ | refine jc ?_ _)); exact qn1.out⟩, ⟨by (with_reducible repeat (first | refine ja ?_ _ | refine jb ?_ | refine jc ?_ _)); refine jm (cs := #[.int .i64 1, .string (⟨#[]⟩ : ByteArray), .slice none 0 0, .int .i64 0, .int .i64 0, .slice none 0 0]) ?_ 5 _ rfl; (with_reducible repeat (first | refine ja ?_ _ | refine jb ?_ | refine jc ?_ _)); refine jm (cs := #[.int .i64 1, .string (⟨#[]⟩ : ByteArray), .slice none 0 0, .int .i64 0, .int .i64 0, .slice none 0 0]) ?_ 4 _ rfl; (with_reducible repeat (first | refine ja ?_ _ | refine jb ?_ | refine jc ?_ _)); refine jm (cs := #[.int .i64 1, .string (⟨#[]⟩ : ByteArray), .slice none 0 0, .int .i64 0, .int .i64 0, .slice none 0 0]) ?_ 3 _ rfl; (with_reducible repeat (first | refine ja ?_ _ | refine jb ?_ | refine jc ?_ _)); refine jm (cs := #[.int .i64 1, .string (⟨#[]⟩ : ByteArray), .slice none 0 0, .int .i64 0, .int .i64 0, .slice none 0 0]) ?_ 2 _ rfl; (with_reducible repeat (first | refine ja ?_ _ | refine jb ?_ | refine jc ?_ _)); refine jm (cs := #[.int .i64 1, .string (⟨#[]⟩ : ByteArray), .slice none 0 0, .int .i64 0, .int .i64 0, .slice none 0 0]) ?_ 1 _ rfl; (with_reducible repeat (first | refine ja ?_ _ | refine jb ?_ | refine jc ?_ _)); refine jm (cs := #[.int .i64 0, .string (⟨#[]⟩ : ByteArray), .slice none 0 0, .int .i64 0, .int .i64 0, .slice none 0 0]) ?_ 0 _ rfl; (with_reducible repeat (first | refine ja ?_ _ | refine jb ?_ | refine jc ?_ _)); exact qq1.out⟩, ⟨by repeat (first | (with_reducible first | exact HI0.out | apply jn | apply jo | apply jp | apply jq | refine jr ?_ qp.out _ | refine jr ?_ qs.out _) | exact HI0.out)⟩, ⟨by repeat (first | (with_reducible first | exact HK.out | apply jg | apply jd | apply je | apply jf | refine keep_far ?_ ql1.out _ | refine keep_far ?_ qr1.out _) | exact HK.out)⟩, ⟨by repeat (first | (with_reducible first | exact HB.out | apply js | apply jt | apply ju | refine jj ?_ (jv HI0.out) | refine jj ?_ qm1.out | refine jj ?_ qv1.out) | exact HB.out)⟩⟩
 case round =>
  clear H'
  try clear p2
  try clear c3
  try clear c7
  try clear c8
  try clear hcz9_0
  try clear hcz9_1
  try clear hcz9_2
  try clear hcz9_3
  try clear hcz9_4
  try clear hcz9_5
  try clear hfz9_0
  try clear hfz9_1
  try clear hfz9_2
  try clear hfz9_3
  try clear hfz9_4
  try clear hfz9_5
  obtain ⟨x10_1, x1001_1, qi, rfl, HA, HK1, qn1, qq1, HI0, HK, HB⟩ := hrel
  cases gk with
  | zero => exact absurd HA.out (by simp [spec_l13Struct.l0])
  | succ k1 =>
   have H := HA.out
   clear HA
   simp only [spec_l13Struct.l0] at H
   by_cases c10 : x10_1 < a1
   ·rw [if_pos c10] at H
    have c10b0 : decide (x10_1 < a1) = true := decide_eq_true c10
    clear c10
    replace H := Option.bind_eq_some_iff.mp H
    obtain ⟨⟨t166, t167⟩, A110, H⟩ := H
    replace H : (if qi.size + t166.size ≤ 9223372036854775807 then (spec_l13Struct.l0 k1 a1 a2 a3 (wrap64 (x10_1 + 1)) s0_0 t167 1 (qi ++ t166) 0 0) else (none)) = some (r1, r2, r3, r4, r5, r6, r7) := H
    have A11 := Aside0.mk A110
    clear A110
    by_cases c12 : qi.size + t166.size ≤ 9223372036854775807
    ·rw [if_pos c12] at H
     have c12b0 := eq_true c12
     have c12b1 : decide (qi.size + t166.size ≤ 9223372036854775807) = true := decide_eq_true c12
     try have c12b2 : (9223372036854775807 < qi.size + t166.size) = False := eq_false (Nat.not_lt.2 c12)
     have H' := Aside0.mk H
     clear H
     try go_wp2
     have n0_ := Aside0.mk (jb qn1.out)
     have n1_ := Aside0.mk (jb qq1.out)
     have n2_ := Aside0.mk (jp HI0.out)
     have n3_ := Aside0.mk (je HK.out)
     have n4_ := Aside0.mk (ju HB.out)
     clear qn1
     clear qq1
     clear HI0
     clear HK
     clear HB
     have qn1 := n0_
     have qq1 := n1_
     have HI0 := n2_
     have HK := n3_
     have HB := n4_
     clear n0_ n1_ n2_ n3_ n4_
     refine start_ (n := 7) (S := fun w' => w'.cell? ⟨gc, 0, none⟩ = some (.int .i64 1) ∧ w'.cell? ⟨gc, 1, none⟩ = some (.string qi) ∧ w'.cell? ⟨gc, 2, none⟩ = some (.slice none 0 0) ∧ w'.cell? ⟨gc, 3, none⟩ = some (.int .i64 0) ∧ w'.cell? ⟨gc, 4, none⟩ = some (.int .i64 0) ∧ w'.cell? ⟨gc, 5, none⟩ = some (.slice none 0 0)) (ds := [6]) #[false, false, false, false, false, false, false] (by kernel_rfl) rfl rfl ⟨(jh qq1.out 0).trans rfl, (jh qq1.out 1).trans rfl, (jh qq1.out 2).trans rfl, (jh qq1.out 3).trans rfl, (jh qq1.out 4).trans rfl, (jh qq1.out 5).trans rfl⟩ (fun hHeld => ?_)
     generalize wr.drew = w13 at qn1 qq1 HI0 HK HB hHeld ⊢
     refine pure_ (i := 0) (N := some 18) (v := ?_) (a' := ?_) #[true, false, false, false, false, false, false] rfl rfl (by kernel_rfl) (fun _ _ _ h => h) (Or.inl ⟨by rfl, ?_⟩) ?_ ?_
     rotate_left
     ·intro w'
      go_simp
      with_reducible rfl
     rotate_left
     ·simp only [Act.put, List.setIfInBounds_toArray, List.set_cons_zero, List.set_cons_succ, i64_w, i32_w]
      rfl
     refine pure_ (i := 2) (N := some 20) (v := ?_) (a' := ?_) #[true, false, true, false, false, false, false] rfl rfl (by kernel_rfl) (fun _ _ _ h => h) (Or.inl ⟨by rfl, ?_⟩) ?_ ?_
     rotate_left
     ·intro w'
      go_simp
      with_reducible rfl
     rotate_left
     ·simp only [Act.put, List.setIfInBounds_toArray, List.set_cons_zero, List.set_cons_succ, i64_w, i32_w]
      rfl
     refine take_ (i := 1) (N := some 19) (v := ?_) (a' := ?_) #[true, true, true, false, false, false, false] rfl rfl (by kernel_rfl) (fun _ _ _ h => h) (Or.inl ⟨by rfl, ?_⟩) hHeld ?_ ?_
     rotate_left
     ·rintro w' ⟨s0, s1, s2, s3, s4, s5⟩
      go_simp
      with_reducible rfl
     rotate_left
     ·simp only [Act.put, List.setIfInBounds_toArray, List.set_cons_zero, List.set_cons_succ, i64_w, i32_w]
      rfl
     refine one_ (i := 3) (N := some 21) #[true, true, true, true, false, false, false] rfl rfl (by kernel_rfl) (by decide) (fun K hK => ?_)
     refine goes_ Try.func41 (by kernel_rfl) rfl #[.pointer (some ⟨g, 0, none⟩)] (by rfl) rfl rfl (by (try simp only [List.map_toArray, List.map_cons, List.map_nil]); first | done | rfl | (simp only [List.length_drop, List.length_take]; rfl)) ?_
     with_reducible refine (spec_l13Word.calls k1 g s0_0 x1001_1 t166 t167 w0 _ ?side1 ?side2 A11.out).mono ?_
     (case side1 => repeat (first | (with_reducible first | exact HI0.out | apply jn | apply jo | apply jp | apply jq | refine jr ?_ qp.out _ | refine jr ?_ qs.out _) | exact HI0.out))
     (case side2 => repeat (first | (with_reducible first | exact HB.out | apply js | apply jt | apply ju | refine jj ?_ (jv HI0.out) | refine jj ?_ qm1.out | refine jj ?_ qv1.out) | exact HB.out))
     rintro e w14 ⟨rfl, hi, hb, hk⟩
     refine ⟨_, rfl, ?_⟩
     have n0_ := Aside0.mk (KeepBut.blk hk (g' := ga) (o := .cells #[.int .i64 0, .string (⟨#[]⟩ : ByteArray), .slice none 0 0, .int .i64 0, .int .i64 0, .slice none 0 0] 29 (0, 0)) (by (with_reducible repeat (first | refine ja ?_ _ | refine jb ?_ | refine jc ?_ _)); exact qn1.out) qt.out (by simp))
     have n1_ := Aside0.mk (KeepBut.blk hk (g' := gc) (o := .cells #[.int .i64 1, .string qi, .slice none 0 0, .int .i64 0, .int .i64 0, .slice none 0 0] 29 (0, 0)) (by (with_reducible repeat (first | refine ja ?_ _ | refine jb ?_ | refine jc ?_ _)); exact qq1.out) qq.out (by simp))
     have n2_ := Aside0.mk (KeepBut.trans (by repeat (first | (with_reducible first | exact HK.out | apply jg | apply jd | apply je | apply jf | refine keep_far ?_ ql1.out _ | refine keep_far ?_ qr1.out _) | exact HK.out)) hk (.inl rfl))
     have n3_ := Aside0.mk (hb)
     have n4_ := Aside0.mk (hi)
     clear qn1
     clear qq1
     clear HK
     clear HB
     clear HI0
     have qn1 := n0_
     have qq1 := n1_
     have HK := n2_
     have HB := n3_
     have HI0 := n4_
     clear n0_ n1_ n2_ n3_ n4_
     (try clear hb)
     (try clear hb2)
     (try clear hk)
     (try clear hi)
     refine hK.out _ _ ⟨(jh qq1.out 0).trans rfl, (jh qq1.out 1).trans rfl, (jh qq1.out 2).trans rfl, (jh qq1.out 3).trans rfl, (jh qq1.out 4).trans rfl, (jh qq1.out 5).trans rfl⟩ (fun hHeld => ?_)
     clear hK K
     refine norm_ (a' := ?_) ?_ ?_
     rotate_left
     ·show Act.put _ (some 21) _ = _
      simp only [Act.put, List.setIfInBounds_toArray, List.set_cons_zero, List.set_cons_succ, i64_w, i32_w]
      rfl
     refine pure_ (i := 4) (N := some 22) (v := ?_) (a' := ?_) #[true, true, true, true, true, false, false] rfl rfl (by kernel_rfl) (fun _ _ _ h => h) (Or.inl ⟨by rfl, ?_⟩) ?_ ?_
     rotate_left
     ·intro w'
      go_simp
      with_reducible rfl
     rotate_left
     ·simp only [Act.put, List.setIfInBounds_toArray, List.set_cons_zero, List.set_cons_succ, i64_w, i32_w]
      rfl
     refine pure_ (i := 5) (N := some 23) (v := ?_) (a' := ?_) #[true, true, true, true, true, true, false] rfl rfl (by kernel_rfl) (fun _ _ _ h => h) (Or.inl ⟨by rfl, ?_⟩) ?_ ?_
     rotate_left
     ·intro w'
      go_simp
      with_reducible rfl
     rotate_left
     ·simp only [Act.put, List.setIfInBounds_toArray, List.set_cons_zero, List.set_cons_succ, i64_w, i32_w]
      rfl
     refine last_ (i := 6) (N := none) #[true, true, true, true, true, true, true] rfl rfl (by kernel_rfl) (by decide) (fun K hK => ?_)
     have hs15 : w14.cell? ⟨gc, 1, none⟩ = some (.string qi) := (jh qq1.out 1).trans rfl
     have hfs15 := ji qq1.out 1
     have hns15_0 := qd.out
     have hms15_0 := qa.out
     refine skip_ (w1 := ?_) (by rfl) rfl ?_ ?_
     rotate_left
     ·go_simp
      rfl
     refine hK.out _ _ ?_
     clear hK K
     refine done_ (by kernel_rfl) ?_
     try go_wp2
     go_roundg k1
     case measure => have := HK1.out; omega
     case rel => exact ⟨(wrap64 (x10_1 + 1)), (t167), (qi ++ t166), (by first | rfl | (simp; done) | (simp [*]; done)), H', ⟨by have := HK1.out; omega⟩, ⟨by (with_reducible repeat (first | refine ja ?_ _ | refine jb ?_ | refine jc ?_ _)); refine jk ?_ qd.out _; (with_reducible repeat (first | refine ja ?_ _ | refine jb ?_ | refine jc ?_ _)); exact qn1.out⟩, ⟨by (with_reducible repeat (first | refine ja ?_ _ | refine jb ?_ | refine jc ?_ _)); refine jm (cs := #[.int .i64 1, .string qi, .slice none 0 0, .int .i64 0, .int .i64 0, .slice none 0 0]) ?_ 1 _ rfl; (with_reducible repeat (first | refine ja ?_ _ | refine jb ?_ | refine jc ?_ _)); exact qq1.out⟩, ⟨by repeat (first | (with_reducible first | exact HI0.out | apply jn | apply jo | apply jp | apply jq | refine jr ?_ qp.out _ | refine jr ?_ qs.out _) | exact HI0.out)⟩, ⟨by repeat (first | (with_reducible first | exact HK.out | apply jg | apply jd | apply je | apply jf | refine keep_far ?_ ql1.out _ | refine keep_far ?_ qr1.out _) | exact HK.out)⟩, ⟨by repeat (first | (with_reducible first | exact HB.out | apply js | apply jt | apply ju | refine jj ?_ (jv HI0.out) | refine jj ?_ qm1.out | refine jj ?_ qv1.out) | exact HB.out)⟩⟩
    ·rw [if_neg c12] at H
     exact absurd H (by simp)
   ·rw [if_neg c10] at H
    have c10b0 : decide (x10_1 < a1) = false := decide_eq_false c10
    clear c10
    have H' := Aside0.mk H
    clear H
    go_wp2
    go_loopg [11] k1 (fun kq v11 w' => ∃ (x11_2 : Int) (x1001_2 : Int) (qb : List (S29)) (u166002 : Value), v11 = .int .i64 x11_2 ∧ Aside0 (spec_l13Struct.l1 kq a2 a3 x11_2 s0_0 x1001_2 1 qi qb 0 0 = some (r1, r2, r3, r4, r5, r6, r7)) ∧ Aside0 (kq ≤ k1) ∧ Aside0 (Kd.R k29 29 w' w.heap.size (fun k_ => k_ ≠ ga ∧ k_ ≠ gc) u166002 qb) ∧ Aside0 (w'.heap[ga]? = some (.cells #[.int .i64 0, .string (⟨#[]⟩ : ByteArray), (.slice none 0 0), .int .i64 0, .int .i64 0, (.slice none 0 0)] 29 (0, 0))) ∧ Aside0 (w'.heap[gc]? = some (.cells #[.int .i64 1, .string qi, u166002, .int .i64 0, .int .i64 0, (.slice none 0 0)] 29 (0, 0))) ∧ Aside0 (IsS51 w0 w' g s0_0 x1001_2) ∧ Aside0 (KeepBut w w' g none) ∧ Aside0 (Below w0.heap.size w0 w'))
    case atStart => exact ⟨(0), (x1001_1), (([] : List (S29))), (.slice none 0 0), (by first | rfl | (simp; done) | (simp [*]; done)), H', ⟨Nat.le_refl _⟩, ⟨by first | exact Kd.R_nil _ _ _ _ _ | exact Kd.N_nil _ _ _ _ _ | exact Kd.V_nil _ _ _ _ _ | exact Kd.Q_nil _ _ _ _ _ | exact Kd.S_nil _ _ _ _ _⟩, ⟨by (with_reducible repeat (first | refine ja ?_ _ | refine jb ?_ | refine jc ?_ _)); exact qn1.out⟩, ⟨by (with_reducible repeat (first | refine ja ?_ _ | refine jb ?_ | refine jc ?_ _)); exact qq1.out⟩, ⟨by repeat (first | (with_reducible first | exact HI0.out | apply jn | apply jo | apply jp | apply jq | refine jr ?_ qp.out _ | refine jr ?_ qs.out _) | exact HI0.out)⟩, ⟨by repeat (first | (with_reducible first | exact HK.out | apply jg | apply jd | apply je | apply jf | refine keep_far ?_ ql1.out _ | refine keep_far ?_ qr1.out _) | exact HK.out)⟩, ⟨by repeat (first | (with_reducible first | exact HB.out | apply js | apply jt | apply ju | refine jj ?_ (jv HI0.out) | refine jj ?_ qm1.out | refine jj ?_ qv1.out) | exact HB.out)⟩⟩
    case round =>
     clear H'
     try clear c1
     try clear p2
     try clear c3
     try clear c4
     try clear p6
     try clear c7
     try clear c8
     try clear c10
     try clear c10b0
     try clear c12
     try clear c12b0
     try clear c12b1
     try clear c12b2
     try clear hcz9_0
     try clear hcz9_1
     try clear hcz9_2
     try clear hcz9_3
     try clear hcz9_4
     try clear hcz9_5
     try clear hfz9_0
     try clear hfz9_1
     try clear hfz9_2
     try clear hfz9_3
     try clear hfz9_4
     try clear hfz9_5
     try clear p2
     obtain ⟨x11_2, x1001_2, qb, u166002, rfl, HA, HK2, qk, qn1, qq1, HI0, HK, HB⟩ := hrel
     cases gk with
     | zero => exact absurd HA.out (by simp [spec_l13Struct.l1])
     | succ k2 =>
      have H := HA.out
      clear HA
      simp only [spec_l13Struct.l1] at H
      by_cases c16 : x11_2 < a2
      ·rw [if_pos c16] at H
       have c16b0 : decide (x11_2 < a2) = true := decide_eq_true c16
       clear c16
       replace H := Option.bind_eq_some_iff.mp H
       obtain ⟨⟨t168, t169, t170, t173, t174, t175, t178⟩, A170, H⟩ := H
       replace H : (if qb.length < 1599289640401 then (spec_l13Struct.l1 k2 a2 a3 (wrap64 (x11_2 + 1)) s0_0 t178 1 qi (qb ++ [(⟨t168, t169, t170, t173, t174, t175⟩ : S29)]) 0 0) else (none)) = some (r1, r2, r3, r4, r5, r6, r7) := H
       have A17 := Aside0.mk A170
       clear A170
       by_cases c18 : qb.length < 1599289640401
       ·rw [if_pos c18] at H
        have LMc18 := Aside0.mk c18
        clear c18
        obtain ⟨y179, hy179⟩ : ∃ y_ : List (S29), y_ = (qb ++ [(⟨t168, t169, t170, t173, t174, t175⟩ : S29)]) := ⟨_, rfl⟩
        replace H : (spec_l13Struct.l1 k2 a2 a3 (wrap64 (x11_2 + 1)) s0_0 t178 1 qi y179 0 0) = some (r1, r2, r3, r4, r5, r6, r7) := by first | (rw [hy179]; with_reducible exact H) | (have H2_ := (Option.bind_some _ _).symm.trans H; rw [hy179]; with_reducible exact H2_) | (have H2_ := (Option.bind_some _ _).symm.trans H; with_reducible exact H2_) | with_reducible exact H | (rw [hy179]; exact H) | exact H
        have Ny179 := Aside0.mk hy179
        clear hy179
        have H' := Aside0.mk H
        clear H
        try go_wp2
        have n0_ := Aside0.mk (Kd.R_drew qk.out)
        have n1_ := Aside0.mk (jb qn1.out)
        have n2_ := Aside0.mk (jb qq1.out)
        have n3_ := Aside0.mk (jp HI0.out)
        have n4_ := Aside0.mk (je HK.out)
        have n5_ := Aside0.mk (ju HB.out)
        clear qk
        clear qn1
        clear qq1
        clear HI0
        clear HK
        clear HB
        have qk := n0_
        have qn1 := n1_
        have qq1 := n2_
        have HI0 := n3_
        have HK := n4_
        have HB := n5_
        clear n0_ n1_ n2_ n3_ n4_ n5_
        refine start_ (n := 10) (S := fun w' => w'.cell? ⟨gc, 0, none⟩ = some (.int .i64 1) ∧ w'.cell? ⟨gc, 1, none⟩ = some (.string qi) ∧ w'.cell? ⟨gc, 2, none⟩ = some (u166002) ∧ w'.cell? ⟨gc, 3, none⟩ = some (.int .i64 0) ∧ w'.cell? ⟨gc, 4, none⟩ = some (.int .i64 0) ∧ w'.cell? ⟨gc, 5, none⟩ = some (.slice none 0 0)) (ds := [9]) #[false, false, false, false, false, false, false, false, false, false] (by kernel_rfl) rfl rfl ⟨(jh qq1.out 0).trans rfl, (jh qq1.out 1).trans rfl, (jh qq1.out 2).trans rfl, (jh qq1.out 3).trans rfl, (jh qq1.out 4).trans rfl, (jh qq1.out 5).trans rfl⟩ (fun hHeld => ?_); refine with_tabW spec_l13Struct.tab9 spec_l13Struct.bits9 (fun HT_ HW_ => ?_)
        generalize wr.drew = w19 at qk qn1 qq1 HI0 HK HB hHeld ⊢
        refine pure_ (i := 0) (N := some 29) (v := ?_) (a' := ?_) #[true, false, false, false, false, false, false, false, false, false] rfl rfl (any_of HT_.out (by kernel_rfl)) (fun _ _ _ h => h) (Or.inl ⟨by rfl, ?_⟩) ?_ ?_
        rotate_left
        ·intro w'
         go_simp
         with_reducible rfl
        rotate_left
        ·simp only [Act.put, List.setIfInBounds_toArray, List.set_cons_zero, List.set_cons_succ, i64_w, i32_w]
         rfl
        refine pure_ (i := 2) (N := some 31) (v := ?_) (a' := ?_) #[true, false, true, false, false, false, false, false, false, false] rfl rfl (any_of HT_.out (by kernel_rfl)) (fun _ _ _ h => h) (Or.inl ⟨by rfl, ?_⟩) ?_ ?_
        rotate_left
        ·intro w'
         go_simp
         with_reducible rfl
        rotate_left
        ·simp only [Act.put, List.setIfInBounds_toArray, List.set_cons_zero, List.set_cons_succ, i64_w, i32_w]
         rfl
        refine pure_ (i := 3) (N := some 32) (v := ?_) (a' := ?_) #[true, false, true, true, false, false, false, false, false, false] rfl rfl (any_of HT_.out (by kernel_rfl)) (fun _ _ _ h => h) (Or.inl ⟨by rfl, ?_⟩) ?_ ?_
        rotate_left
        ·intro w'
         go_simp
         with_reducible rfl
        rotate_left
        ·simp only [Act.put, List.setIfInBounds_toArray, List.set_cons_zero, List.set_cons_succ, i64_w, i32_w]
         rfl
        refine pure_ (i := 4) (N := some 33) (v := ?_) (a' := ?_) #[true, false, true, true, true, false, false, false, false, false] rfl rfl (any_of HT_.out (by kernel_rfl)) (fun _ _ _ h => h) (Or.inl ⟨by rfl, ?_⟩) ?_ ?_
        rotate_left
        ·intro w'
         go_simp
         with_reducible rfl
        rotate_left
        ·simp only [Act.put, List.setIfInBounds_toArray, List.set_cons_zero, List.set_cons_succ, i64_w, i32_w]
         rfl
        refine take_ (i := 1) (N := some 30) (v := ?_) (a' := ?_) #[true, true, true, true, true, false, false, false, false, false] rfl rfl (take_ofW HT_.out HW_.out (by kernel_rfl)) (fun _ _ _ h => h) (Or.inl ⟨by rfl, ?_⟩) hHeld ?_ ?_
        rotate_left
        ·rintro w' ⟨s0, s1, s2, s3, s4, s5⟩
         go_simp
         with_reducible rfl
        rotate_left
        ·simp only [Act.put, List.setIfInBounds_toArray, List.set_cons_zero, List.set_cons_succ, i64_w, i32_w]
         rfl
        refine one_ (i := 5) (N := some 34) #[true, true, true, true, true, true, false, false, false, false] rfl rfl (one_of HT_.out (by kernel_rfl)) (by decide) (fun K hK => ?_)
        refine goes_ Try.func30 (by kernel_rfl) rfl #[.pointer (some ⟨g, 0, none⟩), .int .i64 (wrap64 (a3 - 1))] (by rfl) rfl rfl (by (try simp only [List.map_toArray, List.map_cons, List.map_nil]); first | done | rfl | (simp only [List.length_drop, List.length_take]; rfl)) ?_
        with_reducible refine (HNN.out k2 (by have := HK1.out; have := HK2.out; omega) g s0_0 x1001_2 (wrap64 (a3 - 1)) t168 t169 t170 t173 t174 t175 t178 w0 _ ?side1 ?side2 A17.out).mono ?_
        (case side1 => repeat (first | (with_reducible first | exact HI0.out | apply jn | apply jo | apply jp | apply jq | refine jr ?_ qp.out _ | refine jr ?_ qs.out _) | exact HI0.out))
        (case side2 => repeat (first | (with_reducible first | exact HB.out | apply js | apply jt | apply ju | refine jj ?_ (jv HI0.out) | refine jj ?_ qm1.out | refine jj ?_ qv1.out) | exact HB.out))
        rintro e w20 ⟨v171, v176, rfl, ho0, ho1, hi, hb, hk⟩
        refine ⟨_, rfl, ?_⟩
        have n0_ := Aside0.mk (Kd.R_mono (Kd.R_told (Kd.R_told (Kd.R_oldK (IsS51.apart (show IsS51 w0 _ g s0_0 x1001_2 from by repeat (first | (with_reducible first | exact HI0.out | apply jn | apply jo | apply jp | apply jq | refine jr ?_ qp.out _ | refine jr ?_ qs.out _) | exact HI0.out)) (by (with_reducible repeat (first | apply Kd.R_alloc | apply Kd.R_drewN | apply Kd.R_drew)); exact qk.out) (by decide)) hk) (Kd.R_base ho0)) (Kd.R_base ho1)) (fun _ h_ => h_.1))
        have n1_ := Aside0.mk (KeepBut.blk hk (g' := ga) (o := .cells #[.int .i64 0, .string (⟨#[]⟩ : ByteArray), .slice none 0 0, .int .i64 0, .int .i64 0, .slice none 0 0] 29 (0, 0)) (by (with_reducible repeat (first | refine ja ?_ _ | refine jb ?_ | refine jc ?_ _)); exact qn1.out) qt.out (by simp))
        have n2_ := Aside0.mk (KeepBut.blk hk (g' := gc) (o := .cells #[.int .i64 1, .string qi, u166002, .int .i64 0, .int .i64 0, .slice none 0 0] 29 (0, 0)) (by (with_reducible repeat (first | refine ja ?_ _ | refine jb ?_ | refine jc ?_ _)); exact qq1.out) qq.out (by simp))
        have n3_ := Aside0.mk (Kd.R_lower (Kd.R_newB (Kd.R_newB (Kd.R_new' ho0 (Kd.R_lt (by (with_reducible repeat (first | apply Kd.R_alloc | apply Kd.R_drewN | apply Kd.R_drew)); exact qk.out))) (g := ga) (o := .cells #[.int .i64 0, .string (⟨#[]⟩ : ByteArray), .slice none 0 0, .int .i64 0, .int .i64 0, .slice none 0 0] 29 (0, 0)) (by (with_reducible repeat (first | refine ja ?_ _ | refine jb ?_ | refine jc ?_ _)); exact qn1.out)) (g := gc) (o := .cells #[.int .i64 1, .string qi, u166002, .int .i64 0, .int .i64 0, .slice none 0 0] 29 (0, 0)) (by (with_reducible repeat (first | refine ja ?_ _ | refine jb ?_ | refine jc ?_ _)); exact qq1.out)) (keep_size (w := w) (g := g) (row := none) (by repeat (first | (with_reducible first | exact HK.out | apply jg | apply jd | apply je | apply jf | refine keep_far ?_ ql1.out _ | refine keep_far ?_ qr1.out _) | exact HK.out))))
        have n4_ := Aside0.mk (Kd.R_lower (Kd.R_newB (Kd.R_newB (Kd.R_new' ho1 (Kd.R_lt (by (with_reducible repeat (first | apply Kd.R_alloc | apply Kd.R_drewN | apply Kd.R_drew)); exact qk.out))) (g := ga) (o := .cells #[.int .i64 0, .string (⟨#[]⟩ : ByteArray), .slice none 0 0, .int .i64 0, .int .i64 0, .slice none 0 0] 29 (0, 0)) (by (with_reducible repeat (first | refine ja ?_ _ | refine jb ?_ | refine jc ?_ _)); exact qn1.out)) (g := gc) (o := .cells #[.int .i64 1, .string qi, u166002, .int .i64 0, .int .i64 0, .slice none 0 0] 29 (0, 0)) (by (with_reducible repeat (first | refine ja ?_ _ | refine jb ?_ | refine jc ?_ _)); exact qq1.out)) (keep_size (w := w) (g := g) (row := none) (by repeat (first | (with_reducible first | exact HK.out | apply jg | apply jd | apply je | apply jf | refine keep_far ?_ ql1.out _ | refine keep_far ?_ qr1.out _) | exact HK.out))))
        have n5_ := Aside0.mk (KeepBut.trans (by repeat (first | (with_reducible first | exact HK.out | apply jg | apply jd | apply je | apply jf | refine keep_far ?_ ql1.out _ | refine keep_far ?_ qr1.out _) | exact HK.out)) hk (.inl rfl))
        have n6_ := Aside0.mk (hb)
        have n7_ := Aside0.mk (hi)
        clear qk
        clear qn1
        clear qq1
        clear HK
        clear HB
        clear HI0
        have qk := n0_
        have qn1 := n1_
        have qq1 := n2_
        have HO172 := n3_
        have HO177 := n4_
        have HK := n5_
        have HB := n6_
        have HI0 := n7_
        clear n0_ n1_ n2_ n3_ n4_ n5_ n6_ n7_
        (try clear hb)
        (try clear hb2)
        (try clear hk)
        (try clear hi)
        (try clear ho0)
        (try clear ho1)
        obtain ⟨Ao22, co22, eo22⟩ := Kd.R_slice HO172.out
        (first | subst eo22 | (injection eo22 with f1_ f2_ f3_; have f4_ := f1_.symm; have f5_ := f3_.symm; clear f1_ f2_ f3_; subst f4_; subst f5_))
        obtain ⟨Ao23, co23, eo23⟩ := Kd.R_slice HO177.out
        (first | subst eo23 | (injection eo23 with f1_ f2_ f3_; have f4_ := f1_.symm; have f5_ := f3_.symm; clear f1_ f2_ f3_; subst f4_; subst f5_))
        refine hK.out _ _ ⟨(jh qq1.out 0).trans rfl, (jh qq1.out 1).trans rfl, (jh qq1.out 2).trans rfl, (jh qq1.out 3).trans rfl, (jh qq1.out 4).trans rfl, (jh qq1.out 5).trans rfl⟩ (fun hHeld => ?_)
        clear hK K
        refine norm_ (a' := ?_) ?_ ?_
        rotate_left
        ·show Act.put _ (some 34) _ = _
         simp only [Act.put, List.setIfInBounds_toArray, List.set_cons_zero, List.set_cons_succ, i64_w, i32_w]
         rfl
        refine one_ (i := 6) (N := some 35) #[true, true, true, true, true, true, true, false, false, false] rfl rfl (one_of HT_.out (by kernel_rfl)) (by decide) (fun K hK => ?_)
        refine value_ (w1 := ?_) (v := ?_) (by rfl) rfl ?_ ?_
        rotate_left 2
        ·go_simp
         constructor
         ·rfl
         ·rfl
        refine hK.out _ _ ⟨(jh (jc qq1.out _) 0).trans rfl, (jh (jc qq1.out _) 1).trans rfl, (jh (jc qq1.out _) 2).trans rfl, (jh (jc qq1.out _) 3).trans rfl, (jh (jc qq1.out _) 4).trans rfl, (jh (jc qq1.out _) 5).trans rfl⟩ (fun hHeld => ?_)
        clear hK K
        refine norm_ (a' := ?_) ?_ ?_
        rotate_left
        ·show Act.put _ (some 35) _ = _
         simp only [Act.put, List.setIfInBounds_toArray, List.set_cons_zero, List.set_cons_succ, i64_w, i32_w]
         rfl
        refine one_ (i := 7) (N := some 36) #[true, true, true, true, true, true, true, true, false, false] rfl rfl (one_of HT_.out (by kernel_rfl)) (by decide) (fun K hK => ?_)
        refine Kd.R_append_step k29 w.heap.size (by rfl) (.tmp 30) (.tmp 35) 27 29 (.agg #[(.int .i64 0), (.string ⟨#[]⟩), (.slice none 0 0), (.int .i64 0), (.int .i64 0), (.slice none 0 0)]) 88 rfl Try.underlying27 info29 rfl (by decide) (by omega) u166002 qb (⟨t168, t169, t170, t173, t174, t175⟩ : S29) [.int .i64 t168, .string t169, .slice Ao22 t170.length co22, .int .i64 t173, .int .i64 t174, .slice Ao23 t175.length co23] (fun k_ => k_ ≠ ga ∧ k_ ≠ gc) (fun k_ => ((fun k_ => k_ ≠ ga ∧ k_ ≠ gc)) k_ ∧ some k_ ≠ (u166002 : Value).ownBlock) rfl rfl ?aP (fun _ hk => hk) ?aF ?aO (Below.refl _ _) ?aS ?aL ?_
        (case aP => exact k29_mkM _ _ _ (⟨t168, t169, t170, t173, t174, t175⟩ : S29) (Kd.R_mono (HO172.out) (fun k_ hk => ⟨⟨hk.1.2, hk.2⟩, hk.1.1.2⟩)) (Kd.R_mono (HO177.out) (fun k_ hk => ⟨⟨hk.1.2, hk.2⟩, hk.1.1.2⟩)))
        (case aF => exact (fun k_ hk => ⟨Kd.freshB (g := ga) (o := .cells #[.int .i64 0, .string (⟨#[]⟩ : ByteArray), .slice none 0 0, .int .i64 0, .int .i64 0, .slice none 0 0] 29 (0, 0)) (by (with_reducible repeat (first | refine ja ?_ _ | refine jb ?_ | refine jc ?_ _)); exact qn1.out) k_ hk, Kd.freshB (g := gc) (o := .cells #[.int .i64 1, .string qi, u166002, .int .i64 0, .int .i64 0, .slice none 0 0] 29 (0, 0)) (by (with_reducible repeat (first | refine ja ?_ _ | refine jb ?_ | refine jc ?_ _)); exact qq1.out) k_ hk⟩))
        (case aO => exact (by (with_reducible repeat (first | apply Kd.R_alloc | apply Kd.R_drewN | apply Kd.R_drew)); exact Kd.R_mono qk.out (fun _ hk => ⟨hk.1.1.1, hk.1.1.2⟩)))
        (case aS => exact (keep_size (w := w) (g := g) (row := none) (by repeat (first | (with_reducible first | exact HK.out | apply jg | apply jd | apply je | apply jf | refine keep_far ?_ ql1.out _ | refine keep_far ?_ qr1.out _) | exact HK.out))))
        (case aL => have := LMc18.out; omega)
        intro v180 w21 ho hb hg hat
        rw [← Ny179.out] at ho
        have n0_ := Aside0.mk (blk_grown (g := ga) (o := .cells #[.int .i64 0, .string (⟨#[]⟩ : ByteArray), .slice none 0 0, .int .i64 0, .int .i64 0, .slice none 0 0] 29 (0, 0)) (by (with_reducible repeat (first | refine ja ?_ _ | refine jb ?_ | refine jc ?_ _)); exact qn1.out) hg (Kd.R_away qk.out (fun _ hk => hk.1.1.1)))
        have n1_ := Aside0.mk (blk_grown (g := gc) (o := .cells #[.int .i64 1, .string qi, u166002, .int .i64 0, .int .i64 0, .slice none 0 0] 29 (0, 0)) (by (with_reducible repeat (first | refine ja ?_ _ | refine jb ?_ | refine jc ?_ _)); exact qq1.out) hg (Kd.R_away qk.out (fun _ hk => hk.1.1.2)))
        have n2_ := Aside0.mk (IsS51.grown (by repeat (first | (with_reducible first | exact HI0.out | apply jn | apply jo | apply jp | apply jq | refine jr ?_ qp.out _ | refine jr ?_ qs.out _) | exact HI0.out)) hg (IsS51.own_ne HI0.out qk.out (by decide)))
        have n3_ := Aside0.mk (below_weaken (by repeat (first | (with_reducible first | exact HB.out | apply js | apply jt | apply ju | refine jj ?_ (jv HI0.out) | refine jj ?_ qm1.out | refine jj ?_ qv1.out) | exact HB.out)) HL.out hb)
        have n4_ := Aside0.mk (KeepBut.trans (by repeat (first | (with_reducible first | exact HK.out | apply jg | apply jd | apply je | apply jf | refine keep_far ?_ ql1.out _ | refine keep_far ?_ qr1.out _) | exact HK.out)) (KeepBut.of_grown hg g) (Kd.R_base2 qk.out))
        have n5_ := Aside0.mk (ho)
        clear qn1
        clear qq1
        clear HI0
        clear HB
        clear HK
        clear qk
        clear HO172
        clear HO177
        have qn1 := n0_
        have qq1 := n1_
        have HI0 := n2_
        have HB := n3_
        have HK := n4_
        have HO181 := n5_
        clear n0_ n1_ n2_ n3_ n4_ n5_
        clear ho hb hg hat
        obtain ⟨Ao24, co24, eo24⟩ := Kd.R_slice HO181.out
        (first | subst eo24 | (injection eo24 with f1_ f2_ f3_; have f4_ := f1_.symm; have f5_ := f3_.symm; clear f1_ f2_ f3_; subst f4_; subst f5_))
        refine hK.out _ _ ⟨(jh qq1.out 0).trans rfl, (jh qq1.out 1).trans rfl, (jh qq1.out 2).trans rfl, (jh qq1.out 3).trans rfl, (jh qq1.out 4).trans rfl, (jh qq1.out 5).trans rfl⟩ (fun hHeld => ?_)
        clear hK K
        refine norm_ (a' := ?_) ?_ ?_
        rotate_left
        ·show Act.put _ (some 36) _ = _
         simp only [Act.put, List.setIfInBounds_toArray, List.set_cons_zero, List.set_cons_succ, i64_w, i32_w]
         rfl
        refine pure_ (i := 8) (N := some 37) (v := ?_) (a' := ?_) #[true, true, true, true, true, true, true, true, true, false] rfl rfl (any_of HT_.out (by kernel_rfl)) (fun _ _ _ h => h) (Or.inl ⟨by rfl, ?_⟩) ?_ ?_
        rotate_left
        ·intro w'
         go_simp
         with_reducible rfl
        rotate_left
        ·simp only [Act.put, List.setIfInBounds_toArray, List.set_cons_zero, List.set_cons_succ, i64_w, i32_w]
         rfl
        refine last_ (i := 9) (N := none) #[true, true, true, true, true, true, true, true, true, true] rfl rfl (one_of HT_.out (by kernel_rfl)) (by decide) (fun K hK => ?_)
        have hs25 : w21.cell? ⟨gc, 2, none⟩ = some (u166002) := (jh qq1.out 2).trans rfl
        have hfs25 := ji qq1.out 2
        have hns25_0 := qd.out
        have hms25_0 := qa.out
        refine skip_ (w1 := ?_) (by rfl) rfl ?_ ?_
        rotate_left
        ·go_simp
         rfl
        refine hK.out _ _ ?_
        clear hK K
        refine done_ (done_of HT_.out (by kernel_rfl)) ?_
        try go_wp2
        go_roundg k2
        case measure => have := HK1.out; have := HK2.out; omega
        case rel => exact ⟨(wrap64 (x11_2 + 1)), (t178), (y179), (.slice Ao24 y179.length co24), (by first | rfl | (simp; done) | (simp [*]; done)), H', ⟨by have := HK1.out; have := HK2.out; omega⟩, ⟨by (with_reducible repeat (first | apply Kd.R_alloc | apply Kd.R_drewN | apply Kd.R_drew)); exact Kd.R_mono (Kd.R_far (p := ⟨gc, 2, none⟩) (Kd.R_mono HO181.out (fun k_ hk => (⟨hk, hk.2⟩ : _ ∧ k_ ≠ gc))) (fun _ hk => hk.2) (.slice Ao24 y179.length co24)) (fun _ hk => ⟨hk.1.1, hk.1.2⟩)⟩, ⟨by (with_reducible repeat (first | refine ja ?_ _ | refine jb ?_ | refine jc ?_ _)); refine jk ?_ qd.out _; (with_reducible repeat (first | refine ja ?_ _ | refine jb ?_ | refine jc ?_ _)); exact qn1.out⟩, ⟨by (with_reducible repeat (first | refine ja ?_ _ | refine jb ?_ | refine jc ?_ _)); refine jm (cs := #[.int .i64 1, .string qi, u166002, .int .i64 0, .int .i64 0, .slice none 0 0]) ?_ 2 _ rfl; (with_reducible repeat (first | refine ja ?_ _ | refine jb ?_ | refine jc ?_ _)); exact qq1.out⟩, ⟨by repeat (first | (with_reducible first | exact HI0.out | apply jn | apply jo | apply jp | apply jq | refine jr ?_ qp.out _ | refine jr ?_ qs.out _) | exact HI0.out)⟩, ⟨by repeat (first | (with_reducible first | exact HK.out | apply jg | apply jd | apply je | apply jf | refine keep_far ?_ ql1.out _ | refine keep_far ?_ qr1.out _) | exact HK.out)⟩, ⟨by repeat (first | (with_reducible first | exact HB.out | apply js | apply jt | apply ju | refine jj ?_ (jv HI0.out) | refine jj ?_ qm1.out | refine jj ?_ qv1.out) | exact HB.out)⟩⟩
       ·rw [if_neg c18] at H
        exact absurd H (by simp)
      ·rw [if_neg c16] at H
       have c16b0 : decide (x11_2 < a2) = false := decide_eq_false c16
       clear c16
       simp only [Option.some.injEq, Prod.mk.injEq] at H
       obtain ⟨rfl, rfl, rfl, rfl, rfl, rfl, rfl⟩ := H
       have hnb26 := qa.out
       have hnc26 := qd.out
       have hnb27 := qq.out
       have hnc27 := qs.out
       have hcz28_0 : wr.cell? ⟨gc, 0, none⟩ = some (.int .i64 1) := (jh qq1.out 0).trans rfl
       have hcz28_1 : wr.cell? ⟨gc, 1, none⟩ = some (.string qi) := (jh qq1.out 1).trans rfl
       have hcz28_2 : wr.cell? ⟨gc, 2, none⟩ = some (u166002) := (jh qq1.out 2).trans rfl
       have hcz28_3 : wr.cell? ⟨gc, 3, none⟩ = some (.int .i64 0) := (jh qq1.out 3).trans rfl
       have hcz28_4 : wr.cell? ⟨gc, 4, none⟩ = some (.int .i64 0) := (jh qq1.out 4).trans rfl
       have hcz28_5 : wr.cell? ⟨gc, 5, none⟩ = some (.slice none 0 0) := (jh qq1.out 5).trans rfl
       have hfz28_0 := ji qq1.out 0
       have hfz28_1 := ji qq1.out 1
       have hfz28_2 := ji qq1.out 2
       have hfz28_3 := ji qq1.out 3
       have hfz28_4 := ji qq1.out 4
       have hfz28_5 := ji qq1.out 5
       have hnb29 := qt.out
       have hnc29 := qp.out
       have hcz30_0 : wr.cell? ⟨ga, 0, none⟩ = some (.int .i64 0) := (jh qn1.out 0).trans rfl
       have hcz30_1 : wr.cell? ⟨ga, 1, none⟩ = some (.string (⟨#[]⟩ : ByteArray)) := (jh qn1.out 1).trans rfl
       have hcz30_2 : wr.cell? ⟨ga, 2, none⟩ = some (.slice none 0 0) := (jh qn1.out 2).trans rfl
       have hcz30_3 : wr.cell? ⟨ga, 3, none⟩ = some (.int .i64 0) := (jh qn1.out 3).trans rfl
       have hcz30_4 : wr.cell? ⟨ga, 4, none⟩ = some (.int .i64 0) := (jh qn1.out 4).trans rfl
       have hcz30_5 : wr.cell? ⟨ga, 5, none⟩ = some (.slice none 0 0) := (jh qn1.out 5).trans rfl
       have hfz30_0 := ji qn1.out 0
       have hfz30_1 := ji qn1.out 1
       have hfz30_2 := ji qn1.out 2
       have hfz30_3 := ji qn1.out 3
       have hfz30_4 := ji qn1.out 4
       have hfz30_5 := ji qn1.out 5
       obtain ⟨Ao31, co31, eo31⟩ := Kd.R_slice qk.out
       subst eo31
       go_wp2
       refine bodyPost_ret (results_cell_row rfl _ _ ga 29 #[.int .i64 1, .string qi, .slice Ao31 qb.length co31, .int .i64 0, .int .i64 0, .slice none 0 0] (0, 0) _ rfl (by (with_reducible repeat (first | refine ja ?_ _ | refine jb ?_ | refine jc ?_ _)); refine jm (cs := #[.int .i64 1, .string qi, .slice Ao31 qb.length co31, .int .i64 0, .int .i64 0, .slice none 0 0]) ?_ 5 _ rfl; (with_reducible repeat (first | refine ja ?_ _ | refine jb ?_ | refine jc ?_ _)); refine jm (cs := #[.int .i64 1, .string qi, .slice Ao31 qb.length co31, .int .i64 0, .int .i64 0, .slice none 0 0]) ?_ 4 _ rfl; (with_reducible repeat (first | refine ja ?_ _ | refine jb ?_ | refine jc ?_ _)); refine jm (cs := #[.int .i64 1, .string qi, .slice Ao31 qb.length co31, .int .i64 0, .int .i64 0, .slice none 0 0]) ?_ 3 _ rfl; (with_reducible repeat (first | refine ja ?_ _ | refine jb ?_ | refine jc ?_ _)); refine jm (cs := #[.int .i64 1, .string qi, .slice none 0 0, .int .i64 0, .int .i64 0, .slice none 0 0]) ?_ 2 _ rfl; (with_reducible repeat (first | refine ja ?_ _ | refine jb ?_ | refine jc ?_ _)); refine jm (cs := #[.int .i64 1, .string (⟨#[]⟩ : ByteArray), .slice none 0 0, .int .i64 0, .int .i64 0, .slice none 0 0]) ?_ 1 _ rfl; (with_reducible repeat (first | refine ja ?_ _ | refine jb ?_ | refine jc ?_ _)); refine jm (cs := #[.int .i64 0, .string (⟨#[]⟩ : ByteArray), .slice none 0 0, .int .i64 0, .int .i64 0, .slice none 0 0]) ?_ 0 _ rfl; (with_reducible repeat (first | refine ja ?_ _ | refine jb ?_ | refine jc ?_ _)); exact qn1.out) Try.underlying29 rfl (by kernel_rfl)) rfl ?_
       exact ⟨_, _, by first | rfl | (simp [errW_none, errW_some] <;> rfl) | (simp [*, errW_none, errW_some] <;> rfl), by (with_reducible repeat (first | apply Kd.R_alloc | apply Kd.R_drewN | apply Kd.R_drew)); exact Kd.R_mono (Kd.R_far (p := ⟨ga, 5, none⟩) (Kd.R_far (p := ⟨ga, 4, none⟩) (Kd.R_far (p := ⟨ga, 3, none⟩) (Kd.R_far (p := ⟨ga, 2, none⟩) (Kd.R_far (p := ⟨ga, 1, none⟩) (Kd.R_far (p := ⟨ga, 0, none⟩) (Kd.R_mono qk.out (fun k_ hk => (⟨hk, hk.1⟩ : _ ∧ k_ ≠ ga))) (fun _ hk => hk.2) (.int .i64 1)) (fun _ hk => hk.2) (.string qi)) (fun _ hk => hk.2) (.slice Ao31 qb.length co31)) (fun _ hk => hk.2) (.int .i64 0)) (fun _ hk => hk.2) (.int .i64 0)) (fun _ hk => hk.2) (.slice none 0 0)) (fun _ hk => (by simp [Value.ownBlock])), by first | exact Kd.R_nil _ _ _ _ _ | exact Kd.N_nil _ _ _ _ _ | exact Kd.V_nil _ _ _ _ _ | exact Kd.Q_nil _ _ _ _ _ | exact Kd.S_nil _ _ _ _ _, by repeat (first | (with_reducible first | exact HI0.out | apply jn | apply jo | apply jp | apply jq | refine jr ?_ qp.out _ | refine jr ?_ qs.out _) | exact HI0.out), by repeat (first | (with_reducible first | exact HB.out | apply js | apply jt | apply ju | refine jj ?_ (jv HI0.out) | refine jj ?_ qm1.out | refine jj ?_ qv1.out) | exact HB.out), by repeat (first | (with_reducible first | exact HK.out | apply jg | apply jd | apply je | apply jf | refine keep_far ?_ ql1.out _ | refine keep_far ?_ qr1.out _) | exact HK.out)⟩

def spec_l13Node.T13 : Bool × List (List Nat × List Nat) := (true, [([], []), ([0], [0]), ([], []), ([], []), ([3], [3]), ([2, 4], [2, 4]), ([5], [5]), ([1, 6, 5], [1, 6]), ([0, 1, 2, 3, 4, 5, 6, 7], []), ([8, 7, 7, 0, 1, 2, 3, 4, 5, 6, 7], [7, 8])])
def spec_l13Node.B13 : List Nat := [0, 1, 0, 0, 8, 28, 60, 127, 255, 511]
theorem spec_l13Node.tab13 : rtab .any (opsOf Try.f30 13) = spec_l13Node.T13 := by kernel_rfl
theorem spec_l13Node.bits13 : waitsOk spec_l13Node.T13.2 spec_l13Node.B13 = true := by kernel_rfl
def spec_l13Node.T23 : Bool × List (List Nat × List Nat) := (true, [([], []), ([0], [0]), ([], []), ([], []), ([], []), ([], []), ([2, 3, 4, 5], [2, 3, 4, 5]), ([6], [6]), ([1, 7, 6], [1, 7]), ([0, 1, 2, 3, 4, 5, 6, 7, 8], []), ([9, 8, 8, 0, 1, 2, 3, 4, 5, 6, 7, 8], [8, 9])])
def spec_l13Node.B23 : List Nat := [0, 1, 0, 0, 0, 0, 60, 124, 255, 511, 1023]
theorem spec_l13Node.tab23 : rtab .any (opsOf Try.f30 23) = spec_l13Node.T23 := by kernel_rfl
theorem spec_l13Node.bits23 : waitsOk spec_l13Node.T23.2 spec_l13Node.B23 = true := by kernel_rfl
set_option maxHeartbeats 8000000 in
set_option maxRecDepth 100000 in
theorem spec_l13Node.calls (k : Nat) : ∀ (g : Nat) (s0_0 : List Int) (s0_1 : Int) (a1 : Int) (r1 : Int) (r2 : ByteArray) (r3 : List (S29)) (r4 : Int) (r5 : Int) (r6 : List (S29)) (r7 : Int) (w0 w : World) (hI : IsS51 w0 w g s0_0 s0_1) (hB : Below w0.heap.size w0 w) (h : spec_l13Node.f k s0_0 s0_1 a1 = some (r1, r2, r3, r4, r5, r6, r7)),
  Calls Try.prog 30 #[.pointer (some ⟨g, 0, none⟩), .int .i64 a1] w fun e w' => ∃ v2_ v5_ : Value, e = .returned (.agg #[.int .i64 r1, .string r2, v2_, .int .i64 r4, .int .i64 r5, v5_]) ∧ Kd.R k29 29 w' w.heap.size (fun k_ => some k_ ≠ (v5_ : Value).ownBlock) v2_ r3 ∧ Kd.R k29 29 w' w.heap.size (fun k_ => some k_ ≠ (v2_ : Value).ownBlock) v5_ r6 ∧ IsS51 w0 w' g s0_0 r7 ∧ Below w0.heap.size w0 w' ∧ KeepBut w w' g none := by
 induction k using Nat.strongRecOn with
 | _ k ih =>
 intro g s0_0 s0_1 a1 r1 r2 r3 r4 r5 r6 r7 w0 w hI hB h
 cases k with
 | zero => exact absurd h (by simp [spec_l13Node.f])
 | succ k =>
 simp only [spec_l13Node.f] at h
 have hu29 := Try.underlying29
 have HI0 := Aside0.mk hI
 have HK := Aside0.mk (KeepBut.refl w g none)
 have HL := Aside0.mk hB.size
 clear hI
 have HW0 := Aside0.mk hB.size
 have HB := Aside0.mk hB
 clear hB
 have H : (if a1 < 1 then (some (0, (⟨#[]⟩ : ByteArray), ([] : List (S29)), 0, 0, ([] : List (S29)), s0_1)) else ((spec_l1Rd_pick.f k s0_0 s0_1 6).bind fun bt165 => (if bt165.1 = 0 then (some (0, (⟨#[]⟩ : ByteArray), ([] : List (S29)), 0, 0, ([] : List (S29)), bt165.2)) else (if bt165.1 = 1 then ((spec_l13List.f k s0_0 bt165.2).bind fun bt167 => (some (bt167.1, bt167.2.1, bt167.2.2.1, bt167.2.2.2.1, bt167.2.2.2.2.1, bt167.2.2.2.2.2.1, bt167.2.2.2.2.2.2))) else (if bt165.1 = 2 then ((spec_l1Rd_pick.f k s0_0 bt165.2 4).bind fun bt179 => (spec_l13Node.l0 k a1 bt179.1 s0_0 bt179.2 2 (⟨#[]⟩ : ByteArray) ([] : List (S29)) 6 0)) else (if bt165.1 = 3 then ((spec_l1Rd_pick.f k s0_0 bt165.2 3).bind fun bt196 => ((spec_l1Rd_pick.f k s0_0 bt196.2 3).bind fun bt198 => ((spec_l1Rd_pick.f k s0_0 bt198.2 4).bind fun bt200 => (spec_l13Node.l1 k a1 bt196.1 bt198.1 bt200.1 s0_0 bt200.2 2 (⟨#[]⟩ : ByteArray) 7 0 ([] : List (S29)))))) else ((spec_l1Rd_pick.f k s0_0 bt165.2 4).bind fun bt216 => ((spec_l1Rd_pick.f k s0_0 bt216.2 4).bind fun bt218 => ((spec_l13Struct.f k s0_0 bt218.2 bt216.1 bt218.1 a1).bind fun bt220 => (some (bt220.1, bt220.2.1, bt220.2.2.1, bt220.2.2.2.1, bt220.2.2.2.2.1, bt220.2.2.2.2.2.1, bt220.2.2.2.2.2.2))))))))))) = some (r1, r2, r3, r4, r5, r6, r7) := h
 clear h
 by_cases c3 : a1 < 1
 ·rw [if_pos c3] at H
  have c3b0 : decide (a1 < 1) = true := decide_eq_true c3
  clear c3
  simp only [Option.some.injEq, Prod.mk.injEq] at H
  obtain ⟨rfl, rfl, rfl, rfl, rfl, rfl, rfl⟩ := H
  go_enter Try.func30, Try.ntmps30
  go_wp2_with (first | ((with_reducible refine gate_dst (N := 4) rfl ?_); refine box_event ?hg (N := 4) ?hd (cs := #[.int .i64 0, .string (⟨#[]⟩ : ByteArray), .slice none 0 0, .int .i64 0, .int .i64 0, .slice none 0 0]) (t := 29) ?hr ?_; (case hd => rfl); (case hg => rfl); (case hr => first | (go_simp; done) | (go_simp; rfl)); intro ga hg w4 hbox hb; have n0_ := Aside0.mk (IsS51.below (by repeat (first | (with_reducible first | exact HI0.out | apply jn | apply jo | apply jp | apply jq) | exact HI0.out)) hb); have n1_ := Aside0.mk (KeepBut.trans (by repeat (first | (with_reducible first | exact HK.out | apply jg | apply jd | apply je | apply jf) | exact HK.out)) (KeepBut.of_below hb g none) (.inl rfl)); have n2_ := Aside0.mk (below_step (by repeat (first | (with_reducible first | exact HB.out | apply js | apply jt | apply ju | refine jj ?_ (jv HI0.out)) | exact HB.out)) hb); have n3_ := Aside0.mk (hbox); have n4_ := Aside0.mk ((by rw [hg]; exact (keep_size (w := w) (g := g) (row := none) (by repeat (first | (with_reducible first | exact HK.out | apply jg | apply jd | apply je | apply jf) | exact HK.out))) : w.heap.size ≤ ga)); have n5_ := Aside0.mk ((Nat.le_trans HW0.out (by rw [hg]; exact (keep_size (w := w) (g := g) (row := none) (by repeat (first | (with_reducible first | exact HK.out | apply jg | apply jd | apply je | apply jf) | exact HK.out))) : w.heap.size ≤ ga) : w0.heap.size ≤ ga)); have n6_ := Aside0.mk ((by rw [hg]; exact Nat.ne_of_lt (IsS51.lt (show IsS51 w0 _ g s0_0 s0_1 from by repeat (first | (with_reducible first | exact HI0.out | apply jn | apply jo | apply jp | apply jq) | exact HI0.out))) : g ≠ ga)); have n7_ := Aside0.mk ((by rw [hg]; exact Nat.ne_of_gt (IsS51.lt (show IsS51 w0 _ g s0_0 s0_1 from by repeat (first | (with_reducible first | exact HI0.out | apply jn | apply jo | apply jp | apply jq) | exact HI0.out))) : ga ≠ g)); clear HI0; clear HK; clear HB; have HI0 := n0_; have HK := n1_; have HB := n2_; have qn1 := n3_; have ql1 := n4_; have qm1 := n5_; have qp := n6_; have qt := n7_; clear n0_ n1_ n2_ n3_ n4_ n5_ n6_ n7_; clear hb hbox hg; have hnb5 := qt.out; have hnc5 := qp.out; have hcz6_0 : w4.cell? ⟨ga, 0, none⟩ = some (.int .i64 0) := (jh qn1.out 0).trans rfl; have hcz6_1 : w4.cell? ⟨ga, 1, none⟩ = some (.string (⟨#[]⟩ : ByteArray)) := (jh qn1.out 1).trans rfl; have hcz6_2 : w4.cell? ⟨ga, 2, none⟩ = some (.slice none 0 0) := (jh qn1.out 2).trans rfl; have hcz6_3 : w4.cell? ⟨ga, 3, none⟩ = some (.int .i64 0) := (jh qn1.out 3).trans rfl; have hcz6_4 : w4.cell? ⟨ga, 4, none⟩ = some (.int .i64 0) := (jh qn1.out 4).trans rfl; have hcz6_5 : w4.cell? ⟨ga, 5, none⟩ = some (.slice none 0 0) := (jh qn1.out 5).trans rfl; have hfz6_0 := ji qn1.out 0; have hfz6_1 := ji qn1.out 1; have hfz6_2 := ji qn1.out 2; have hfz6_3 := ji qn1.out 3; have hfz6_4 := ji qn1.out 4; have hfz6_5 := ji qn1.out 5))
  refine bodyPost_ret (results_cell_row rfl _ _ ga 29 #[.int .i64 0, .string (⟨#[]⟩ : ByteArray), .slice none 0 0, .int .i64 0, .int .i64 0, .slice none 0 0] (0, 0) _ rfl (by (with_reducible repeat (first | refine ja ?_ _ | refine jb ?_ | refine jc ?_ _)); refine jm (cs := #[.int .i64 0, .string (⟨#[]⟩ : ByteArray), .slice none 0 0, .int .i64 0, .int .i64 0, .slice none 0 0]) ?_ 5 _ rfl; (with_reducible repeat (first | refine ja ?_ _ | refine jb ?_ | refine jc ?_ _)); refine jm (cs := #[.int .i64 0, .string (⟨#[]⟩ : ByteArray), .slice none 0 0, .int .i64 0, .int .i64 0, .slice none 0 0]) ?_ 4 _ rfl; (with_reducible repeat (first | refine ja ?_ _ | refine jb ?_ | refine jc ?_ _)); refine jm (cs := #[.int .i64 0, .string (⟨#[]⟩ : ByteArray), .slice none 0 0, .int .i64 0, .int .i64 0, .slice none 0 0]) ?_ 3 _ rfl; (with_reducible repeat (first | refine ja ?_ _ | refine jb ?_ | refine jc ?_ _)); refine jm (cs := #[.int .i64 0, .string (⟨#[]⟩ : ByteArray), .slice none 0 0, .int .i64 0, .int .i64 0, .slice none 0 0]) ?_ 2 _ rfl; (with_reducible repeat (first | refine ja ?_ _ | refine jb ?_ | refine jc ?_ _)); refine jm (cs := #[.int .i64 0, .string (⟨#[]⟩ : ByteArray), .slice none 0 0, .int .i64 0, .int .i64 0, .slice none 0 0]) ?_ 1 _ rfl; (with_reducible repeat (first | refine ja ?_ _ | refine jb ?_ | refine jc ?_ _)); refine jm (cs := #[.int .i64 0, .string (⟨#[]⟩ : ByteArray), .slice none 0 0, .int .i64 0, .int .i64 0, .slice none 0 0]) ?_ 0 _ rfl; (with_reducible repeat (first | refine ja ?_ _ | refine jb ?_ | refine jc ?_ _)); exact qn1.out) Try.underlying29 rfl (by kernel_rfl)) rfl ?_
  exact ⟨_, _, by first | rfl | (simp [errW_none, errW_some] <;> rfl) | (simp [*, errW_none, errW_some] <;> rfl), by first | exact Kd.R_nil _ _ _ _ _ | exact Kd.N_nil _ _ _ _ _ | exact Kd.V_nil _ _ _ _ _ | exact Kd.Q_nil _ _ _ _ _ | exact Kd.S_nil _ _ _ _ _, by first | exact Kd.R_nil _ _ _ _ _ | exact Kd.N_nil _ _ _ _ _ | exact Kd.V_nil _ _ _ _ _ | exact Kd.Q_nil _ _ _ _ _ | exact Kd.S_nil _ _ _ _ _, by repeat (first | (with_reducible first | exact HI0.out | apply jn | apply jo | apply jp | apply jq | refine jr ?_ qp.out _) | exact HI0.out), by repeat (first | (with_reducible first | exact HB.out | apply js | apply jt | apply ju | refine jj ?_ (jv HI0.out) | refine jj ?_ qm1.out) | exact HB.out), by repeat (first | (with_reducible first | exact HK.out | apply jg | apply jd | apply je | apply jf | refine keep_far ?_ ql1.out _) | exact HK.out)⟩
 ·rw [if_neg c3] at H
  have c3b0 : decide (a1 < 1) = false := decide_eq_false c3
  clear c3
  replace H := Option.bind_eq_some_iff.mp H
  obtain ⟨⟨t165, t166⟩, A70, H⟩ := H
  replace H : (if t165 = 0 then (some (0, (⟨#[]⟩ : ByteArray), ([] : List (S29)), 0, 0, ([] : List (S29)), t166)) else (if t165 = 1 then ((spec_l13List.f k s0_0 t166).bind fun bt167 => (some (bt167.1, bt167.2.1, bt167.2.2.1, bt167.2.2.2.1, bt167.2.2.2.2.1, bt167.2.2.2.2.2.1, bt167.2.2.2.2.2.2))) else (if t165 = 2 then ((spec_l1Rd_pick.f k s0_0 t166 4).bind fun bt179 => (spec_l13Node.l0 k a1 bt179.1 s0_0 bt179.2 2 (⟨#[]⟩ : ByteArray) ([] : List (S29)) 6 0)) else (if t165 = 3 then ((spec_l1Rd_pick.f k s0_0 t166 3).bind fun bt196 => ((spec_l1Rd_pick.f k s0_0 bt196.2 3).bind fun bt198 => ((spec_l1Rd_pick.f k s0_0 bt198.2 4).bind fun bt200 => (spec_l13Node.l1 k a1 bt196.1 bt198.1 bt200.1 s0_0 bt200.2 2 (⟨#[]⟩ : ByteArray) 7 0 ([] : List (S29)))))) else ((spec_l1Rd_pick.f k s0_0 t166 4).bind fun bt216 => ((spec_l1Rd_pick.f k s0_0 bt216.2 4).bind fun bt218 => ((spec_l13Struct.f k s0_0 bt218.2 bt216.1 bt218.1 a1).bind fun bt220 => (some (bt220.1, bt220.2.1, bt220.2.2.1, bt220.2.2.2.1, bt220.2.2.2.2.1, bt220.2.2.2.2.2.1, bt220.2.2.2.2.2.2))))))))) = some (r1, r2, r3, r4, r5, r6, r7) := H
  have A7 := Aside0.mk A70
  clear A70
  by_cases c8 : t165 = 0
  ·rw [if_pos c8] at H
   have c8b0 : (t165 == 0) = true := beq_iff_eq.mpr c8
   have c8b1 : (t165 != 0) = false := bne_eq_false_iff_eq.mpr c8
   clear c8
   simp only [Option.some.injEq, Prod.mk.injEq] at H
   obtain ⟨rfl, rfl, rfl, rfl, rfl, rfl, rfl⟩ := H
   go_enter Try.func30, Try.ntmps30
   go_wp2_with (first | ((with_reducible refine gate_dst (N := 4) rfl ?_); refine box_event ?hg (N := 4) ?hd (cs := #[.int .i64 0, .string (⟨#[]⟩ : ByteArray), .slice none 0 0, .int .i64 0, .int .i64 0, .slice none 0 0]) (t := 29) ?hr ?_; (case hd => rfl); (case hg => rfl); (case hr => first | (go_simp; done) | (go_simp; rfl)); intro ga hg w9 hbox hb; have n0_ := Aside0.mk (IsS51.below (by repeat (first | (with_reducible first | exact HI0.out | apply jn | apply jo | apply jp | apply jq) | exact HI0.out)) hb); have n1_ := Aside0.mk (KeepBut.trans (by repeat (first | (with_reducible first | exact HK.out | apply jg | apply jd | apply je | apply jf) | exact HK.out)) (KeepBut.of_below hb g none) (.inl rfl)); have n2_ := Aside0.mk (below_step (by repeat (first | (with_reducible first | exact HB.out | apply js | apply jt | apply ju | refine jj ?_ (jv HI0.out)) | exact HB.out)) hb); have n3_ := Aside0.mk (hbox); have n4_ := Aside0.mk ((by rw [hg]; exact (keep_size (w := w) (g := g) (row := none) (by repeat (first | (with_reducible first | exact HK.out | apply jg | apply jd | apply je | apply jf) | exact HK.out))) : w.heap.size ≤ ga)); have n5_ := Aside0.mk ((Nat.le_trans HW0.out (by rw [hg]; exact (keep_size (w := w) (g := g) (row := none) (by repeat (first | (with_reducible first | exact HK.out | apply jg | apply jd | apply je | apply jf) | exact HK.out))) : w.heap.size ≤ ga) : w0.heap.size ≤ ga)); have n6_ := Aside0.mk ((by rw [hg]; exact Nat.ne_of_lt (IsS51.lt (show IsS51 w0 _ g s0_0 s0_1 from by repeat (first | (with_reducible first | exact HI0.out | apply jn | apply jo | apply jp | apply jq) | exact HI0.out))) : g ≠ ga)); have n7_ := Aside0.mk ((by rw [hg]; exact Nat.ne_of_gt (IsS51.lt (show IsS51 w0 _ g s0_0 s0_1 from by repeat (first | (with_reducible first | exact HI0.out | apply jn | apply jo | apply jp | apply jq) | exact HI0.out))) : ga ≠ g)); clear HI0; clear HK; clear HB; have HI0 := n0_; have HK := n1_; have HB := n2_; have qn1 := n3_; have ql1 := n4_; have qm1 := n5_; have qp := n6_; have qt := n7_; clear n0_ n1_ n2_ n3_ n4_ n5_ n6_ n7_; clear hb hbox hg) | ((with_reducible refine gate_callee (f := 24) rfl ?_); refine goesL_ (some 15) rfl rfl Try.func24 (by kernel_rfl) rfl #[.pointer (some ⟨g, 0, none⟩), .int .i64 6] rfl (by (try simp only [List.map_toArray, List.map_cons, List.map_nil]); first | done | rfl | (simp only [List.length_drop, List.length_take]; rfl)) ?_; (with_reducible refine (spec_l1Rd_pick.calls k g s0_0 s0_1 6 t165 t166 w0 _ ?side1 ?side2 A7.out).mono ?_); (case side1 => repeat (first | (with_reducible first | exact HI0.out | apply jn | apply jo | apply jp | apply jq | refine jr ?_ qp.out _) | exact HI0.out)); (case side2 => repeat (first | (with_reducible first | exact HB.out | apply js | apply jt | apply ju | refine jj ?_ (jv HI0.out) | refine jj ?_ qm1.out) | exact HB.out)); rintro e w10 ⟨rfl, hi, hb, hk⟩; refine ⟨_, rfl, ?_⟩; have n0_ := Aside0.mk (KeepBut.blk hk (g' := ga) (o := .cells #[.int .i64 0, .string (⟨#[]⟩ : ByteArray), .slice none 0 0, .int .i64 0, .int .i64 0, .slice none 0 0] 29 (0, 0)) (by (with_reducible repeat (first | refine ja ?_ _ | refine jb ?_ | refine jc ?_ _)); exact qn1.out) qt.out (by simp)); have n1_ := Aside0.mk (KeepBut.trans (by repeat (first | (with_reducible first | exact HK.out | apply jg | apply jd | apply je | apply jf | refine keep_far ?_ ql1.out _) | exact HK.out)) hk (.inl rfl)); have n2_ := Aside0.mk (hb); have n3_ := Aside0.mk (hi); clear qn1; clear HK; clear HB; clear HI0; have qn1 := n0_; have HK := n1_; have HB := n2_; have HI0 := n3_; clear n0_ n1_ n2_ n3_; (try clear hb); (try clear hb2); (try clear hk); (try clear hi); have hnb11 := qt.out; have hnc11 := qp.out; have hcz12_0 : w10.cell? ⟨ga, 0, none⟩ = some (.int .i64 0) := (jh qn1.out 0).trans rfl; have hcz12_1 : w10.cell? ⟨ga, 1, none⟩ = some (.string (⟨#[]⟩ : ByteArray)) := (jh qn1.out 1).trans rfl; have hcz12_2 : w10.cell? ⟨ga, 2, none⟩ = some (.slice none 0 0) := (jh qn1.out 2).trans rfl; have hcz12_3 : w10.cell? ⟨ga, 3, none⟩ = some (.int .i64 0) := (jh qn1.out 3).trans rfl; have hcz12_4 : w10.cell? ⟨ga, 4, none⟩ = some (.int .i64 0) := (jh qn1.out 4).trans rfl; have hcz12_5 : w10.cell? ⟨ga, 5, none⟩ = some (.slice none 0 0) := (jh qn1.out 5).trans rfl; have hfz12_0 := ji qn1.out 0; have hfz12_1 := ji qn1.out 1; have hfz12_2 := ji qn1.out 2; have hfz12_3 := ji qn1.out 3; have hfz12_4 := ji qn1.out 4; have hfz12_5 := ji qn1.out 5))
   refine bodyPost_ret (results_cell_row rfl _ _ ga 29 #[.int .i64 0, .string (⟨#[]⟩ : ByteArray), .slice none 0 0, .int .i64 0, .int .i64 0, .slice none 0 0] (0, 0) _ rfl (by (with_reducible repeat (first | refine ja ?_ _ | refine jb ?_ | refine jc ?_ _)); refine jm (cs := #[.int .i64 0, .string (⟨#[]⟩ : ByteArray), .slice none 0 0, .int .i64 0, .int .i64 0, .slice none 0 0]) ?_ 5 _ rfl; (with_reducible repeat (first | refine ja ?_ _ | refine jb ?_ | refine jc ?_ _)); refine jm (cs := #[.int .i64 0, .string (⟨#[]⟩ : ByteArray), .slice none 0 0, .int .i64 0, .int .i64 0, .slice none 0 0]) ?_ 4 _ rfl; (with_reducible repeat (first | refine ja ?_ _ | refine jb ?_ | refine jc ?_ _)); refine jm (cs := #[.int .i64 0, .string (⟨#[]⟩ : ByteArray), .slice none 0 0, .int .i64 0, .int .i64 0, .slice none 0 0]) ?_ 3 _ rfl; (with_reducible repeat (first | refine ja ?_ _ | refine jb ?_ | refine jc ?_ _)); refine jm (cs := #[.int .i64 0, .string (⟨#[]⟩ : ByteArray), .slice none 0 0, .int .i64 0, .int .i64 0, .slice none 0 0]) ?_ 2 _ rfl; (with_reducible repeat (first | refine ja ?_ _ | refine jb ?_ | refine jc ?_ _)); refine jm (cs := #[.int .i64 0, .string (⟨#[]⟩ : ByteArray), .slice none 0 0, .int .i64 0, .int .i64 0, .slice none 0 0]) ?_ 1 _ rfl; (with_reducible repeat (first | refine ja ?_ _ | refine jb ?_ | refine jc ?_ _)); refine jm (cs := #[.int .i64 0, .string (⟨#[]⟩ : ByteArray), .slice none 0 0, .int .i64 0, .int .i64 0, .slice none 0 0]) ?_ 0 _ rfl; (with_reducible repeat (first | refine ja ?_ _ | refine jb ?_ | refine jc ?_ _)); exact qn1.out) Try.underlying29 rfl (by kernel_rfl)) rfl ?_
   exact ⟨_, _, by first | rfl | (simp [errW_none, errW_some] <;> rfl) | (simp [*, errW_none, errW_some] <;> rfl), by first | exact Kd.R_nil _ _ _ _ _ | exact Kd.N_nil _ _ _ _ _ | exact Kd.V_nil _ _ _ _ _ | exact Kd.Q_nil _ _ _ _ _ | exact Kd.S_nil _ _ _ _ _, by first | exact Kd.R_nil _ _ _ _ _ | exact Kd.N_nil _ _ _ _ _ | exact Kd.V_nil _ _ _ _ _ | exact Kd.Q_nil _ _ _ _ _ | exact Kd.S_nil _ _ _ _ _, by repeat (first | (with_reducible first | exact HI0.out | apply jn | apply jo | apply jp | apply jq | refine jr ?_ qp.out _) | exact HI0.out), by repeat (first | (with_reducible first | exact HB.out | apply js | apply jt | apply ju | refine jj ?_ (jv HI0.out) | refine jj ?_ qm1.out) | exact HB.out), by repeat (first | (with_reducible first | exact HK.out | apply jg | apply jd | apply je | apply jf | refine keep_far ?_ ql1.out _) | exact HK.out)⟩
  ·rw [if_neg c8] at H
   have c8b0 : (t165 == 0) = false := beq_eq_false_iff_ne.mpr c8
   have c8b1 : (t165 != 0) = true := bne_iff_ne.mpr c8
   by_cases c13 : t165 = 1
   ·rw [if_pos c13] at H
    have c13b0 : (t165 == 1) = true := beq_iff_eq.mpr c13
    have c13b1 : (t165 != 1) = false := bne_eq_false_iff_eq.mpr c13
    clear c13
    replace H := Option.bind_eq_some_iff.mp H
    obtain ⟨⟨t167, t168, t169, t172, t173, t174, t177⟩, A140, H⟩ := H
    replace H : (some (t167, t168, t169, t172, t173, t174, t177)) = some (r1, r2, r3, r4, r5, r6, r7) := H
    have A14 := Aside0.mk A140
    clear A140
    simp only [Option.some.injEq, Prod.mk.injEq] at H
    obtain ⟨rfl, rfl, rfl, rfl, rfl, rfl, rfl⟩ := H
    go_enter Try.func30, Try.ntmps30
    go_wp2_with (first | ((with_reducible refine gate_dst (N := 4) rfl ?_); refine box_event ?hg (N := 4) ?hd (cs := #[.int .i64 0, .string (⟨#[]⟩ : ByteArray), .slice none 0 0, .int .i64 0, .int .i64 0, .slice none 0 0]) (t := 29) ?hr ?_; (case hd => rfl); (case hg => rfl); (case hr => first | (go_simp; done) | (go_simp; rfl)); intro ga hg w15 hbox hb; have n0_ := Aside0.mk (IsS51.below (by repeat (first | (with_reducible first | exact HI0.out | apply jn | apply jo | apply jp | apply jq) | exact HI0.out)) hb); have n1_ := Aside0.mk (KeepBut.trans (by repeat (first | (with_reducible first | exact HK.out | apply jg | apply jd | apply je | apply jf) | exact HK.out)) (KeepBut.of_below hb g none) (.inl rfl)); have n2_ := Aside0.mk (below_step (by repeat (first | (with_reducible first | exact HB.out | apply js | apply jt | apply ju | refine jj ?_ (jv HI0.out)) | exact HB.out)) hb); have n3_ := Aside0.mk (hbox); have n4_ := Aside0.mk ((by rw [hg]; exact (keep_size (w := w) (g := g) (row := none) (by repeat (first | (with_reducible first | exact HK.out | apply jg | apply jd | apply je | apply jf) | exact HK.out))) : w.heap.size ≤ ga)); have n5_ := Aside0.mk ((Nat.le_trans HW0.out (by rw [hg]; exact (keep_size (w := w) (g := g) (row := none) (by repeat (first | (with_reducible first | exact HK.out | apply jg | apply jd | apply je | apply jf) | exact HK.out))) : w.heap.size ≤ ga) : w0.heap.size ≤ ga)); have n6_ := Aside0.mk ((by rw [hg]; exact Nat.ne_of_lt (IsS51.lt (show IsS51 w0 _ g s0_0 s0_1 from by repeat (first | (with_reducible first | exact HI0.out | apply jn | apply jo | apply jp | apply jq) | exact HI0.out))) : g ≠ ga)); have n7_ := Aside0.mk ((by rw [hg]; exact Nat.ne_of_gt (IsS51.lt (show IsS51 w0 _ g s0_0 s0_1 from by repeat (first | (with_reducible first | exact HI0.out | apply jn | apply jo | apply jp | apply jq) | exact HI0.out))) : ga ≠ g)); clear HI0; clear HK; clear HB; have HI0 := n0_; have HK := n1_; have HB := n2_; have qn1 := n3_; have ql1 := n4_; have qm1 := n5_; have qp := n6_; have qt := n7_; clear n0_ n1_ n2_ n3_ n4_ n5_ n6_ n7_; clear hb hbox hg) | ((with_reducible refine gate_callee (f := 24) rfl ?_); refine goesL_ (some 15) rfl rfl Try.func24 (by kernel_rfl) rfl #[.pointer (some ⟨g, 0, none⟩), .int .i64 6] rfl (by (try simp only [List.map_toArray, List.map_cons, List.map_nil]); first | done | rfl | (simp only [List.length_drop, List.length_take]; rfl)) ?_; (with_reducible refine (spec_l1Rd_pick.calls k g s0_0 s0_1 6 t165 t166 w0 _ ?side1 ?side2 A7.out).mono ?_); (case side1 => repeat (first | (with_reducible first | exact HI0.out | apply jn | apply jo | apply jp | apply jq | refine jr ?_ qp.out _) | exact HI0.out)); (case side2 => repeat (first | (with_reducible first | exact HB.out | apply js | apply jt | apply ju | refine jj ?_ (jv HI0.out) | refine jj ?_ qm1.out) | exact HB.out)); rintro e w16 ⟨rfl, hi, hb, hk⟩; refine ⟨_, rfl, ?_⟩; have n0_ := Aside0.mk (KeepBut.blk hk (g' := ga) (o := .cells #[.int .i64 0, .string (⟨#[]⟩ : ByteArray), .slice none 0 0, .int .i64 0, .int .i64 0, .slice none 0 0] 29 (0, 0)) (by (with_reducible repeat (first | refine ja ?_ _ | refine jb ?_ | refine jc ?_ _)); exact qn1.out) qt.out (by simp)); have n1_ := Aside0.mk (KeepBut.trans (by repeat (first | (with_reducible first | exact HK.out | apply jg | apply jd | apply je | apply jf | refine keep_far ?_ ql1.out _) | exact HK.out)) hk (.inl rfl)); have n2_ := Aside0.mk (hb); have n3_ := Aside0.mk (hi); clear qn1; clear HK; clear HB; clear HI0; have qn1 := n0_; have HK := n1_; have HB := n2_; have HI0 := n3_; clear n0_ n1_ n2_ n3_; (try clear hb); (try clear hb2); (try clear hk); (try clear hi)) | ((with_reducible refine gate_callee (f := 36) rfl ?_); refine goesL_ (some 22) rfl rfl Try.func36 (by kernel_rfl) rfl #[.pointer (some ⟨g, 0, none⟩)] rfl (by (try simp only [List.map_toArray, List.map_cons, List.map_nil]); first | done | rfl | (simp only [List.length_drop, List.length_take]; rfl)) ?_; (with_reducible refine (spec_l13List.calls k g s0_0 t166 t167 t168 t169 t172 t173 t174 t177 w0 _ ?side1 ?side2 A14.out).mono ?_); (case side1 => repeat (first | (with_reducible first | exact HI0.out | apply jn | apply jo | apply jp | apply jq | refine jr ?_ qp.out _) | exact HI0.out)); (case side2 => repeat (first | (with_reducible first | exact HB.out | apply js | apply jt | apply ju | refine jj ?_ (jv HI0.out) | refine jj ?_ qm1.out) | exact HB.out)); rintro e w17 ⟨v170, v175, rfl, ho0, ho1, hi, hb, hk⟩; refine ⟨_, rfl, ?_⟩; have n0_ := Aside0.mk (KeepBut.blk hk (g' := ga) (o := .cells #[.int .i64 0, .string (⟨#[]⟩ : ByteArray), .slice none 0 0, .int .i64 0, .int .i64 0, .slice none 0 0] 29 (0, 0)) (by (with_reducible repeat (first | refine ja ?_ _ | refine jb ?_ | refine jc ?_ _)); exact qn1.out) qt.out (by simp)); have n1_ := Aside0.mk (Kd.R_lower (Kd.R_newB ho0 (g := ga) (o := .cells #[.int .i64 0, .string (⟨#[]⟩ : ByteArray), .slice none 0 0, .int .i64 0, .int .i64 0, .slice none 0 0] 29 (0, 0)) (by (with_reducible repeat (first | refine ja ?_ _ | refine jb ?_ | refine jc ?_ _)); exact qn1.out)) (keep_size (w := w) (g := g) (row := none) (by repeat (first | (with_reducible first | exact HK.out | apply jg | apply jd | apply je | apply jf | refine keep_far ?_ ql1.out _) | exact HK.out)))); have n2_ := Aside0.mk (Kd.R_lower (Kd.R_newB ho1 (g := ga) (o := .cells #[.int .i64 0, .string (⟨#[]⟩ : ByteArray), .slice none 0 0, .int .i64 0, .int .i64 0, .slice none 0 0] 29 (0, 0)) (by (with_reducible repeat (first | refine ja ?_ _ | refine jb ?_ | refine jc ?_ _)); exact qn1.out)) (keep_size (w := w) (g := g) (row := none) (by repeat (first | (with_reducible first | exact HK.out | apply jg | apply jd | apply je | apply jf | refine keep_far ?_ ql1.out _) | exact HK.out)))); have n3_ := Aside0.mk (KeepBut.trans (by repeat (first | (with_reducible first | exact HK.out | apply jg | apply jd | apply je | apply jf | refine keep_far ?_ ql1.out _) | exact HK.out)) hk (.inl rfl)); have n4_ := Aside0.mk (hb); have n5_ := Aside0.mk (hi); clear qn1; clear HK; clear HB; clear HI0; have qn1 := n0_; have HO171 := n1_; have HO176 := n2_; have HK := n3_; have HB := n4_; have HI0 := n5_; clear n0_ n1_ n2_ n3_ n4_ n5_; (try clear hb); (try clear hb2); (try clear hk); (try clear hi); (try clear ho0); (try clear ho1); have hnb18 := qt.out; have hnc18 := qp.out; have hcz19_0 : w17.cell? ⟨ga, 0, none⟩ = some (.int .i64 0) := (jh qn1.out 0).trans rfl; have hcz19_1 : w17.cell? ⟨ga, 1, none⟩ = some (.string (⟨#[]⟩ : ByteArray)) := (jh qn1.out 1).trans rfl; have hcz19_2 : w17.cell? ⟨ga, 2, none⟩ = some (.slice none 0 0) := (jh qn1.out 2).trans rfl; have hcz19_3 : w17.cell? ⟨ga, 3, none⟩ = some (.int .i64 0) := (jh qn1.out 3).trans rfl; have hcz19_4 : w17.cell? ⟨ga, 4, none⟩ = some (.int .i64 0) := (jh qn1.out 4).trans rfl; have hcz19_5 : w17.cell? ⟨ga, 5, none⟩ = some (.slice none 0 0) := (jh qn1.out 5).trans rfl; have hfz19_0 := ji qn1.out 0; have hfz19_1 := ji qn1.out 1; have hfz19_2 := ji qn1.out 2; have hfz19_3 := ji qn1.out 3; have hfz19_4 := ji qn1.out 4; have hfz19_5 := ji qn1.out 5; obtain ⟨Ao20, co20, eo20⟩ := Kd.R_slice HO171.out; subst eo20; obtain ⟨Ao21, co21, eo21⟩ := Kd.R_slice HO176.out; subst eo21))
    refine bodyPost_ret (results_cell_row rfl _ _ ga 29 #[.int .i64 t167, .string t168, .slice Ao20 t169.length co20, .int .i64 t172, .int .i64 t173, .slice Ao21 t174.length co21] (0, 0) _ rfl (by (with_reducible repeat (first | refine ja ?_ _ | refine jb ?_ | refine jc ?_ _)); refine jm (cs := #[.int .i64 t167, .string t168, .slice Ao20 t169.length co20, .int .i64 t172, .int .i64 t173, .slice none 0 0]) ?_ 5 _ rfl; (with_reducible repeat (first | refine ja ?_ _ | refine jb ?_ | refine jc ?_ _)); refine jm (cs := #[.int .i64 t167, .string t168, .slice Ao20 t169.length co20, .int .i64 t172, .int .i64 0, .slice none 0 0]) ?_ 4 _ rfl; (with_reducible repeat (first | refine ja ?_ _ | refine jb ?_ | refine jc ?_ _)); refine jm (cs := #[.int .i64 t167, .string t168, .slice Ao20 t169.length co20, .int .i64 0, .int .i64 0, .slice none 0 0]) ?_ 3 _ rfl; (with_reducible repeat (first | refine ja ?_ _ | refine jb ?_ | refine jc ?_ _)); refine jm (cs := #[.int .i64 t167, .string t168, .slice none 0 0, .int .i64 0, .int .i64 0, .slice none 0 0]) ?_ 2 _ rfl; (with_reducible repeat (first | refine ja ?_ _ | refine jb ?_ | refine jc ?_ _)); refine jm (cs := #[.int .i64 t167, .string (⟨#[]⟩ : ByteArray), .slice none 0 0, .int .i64 0, .int .i64 0, .slice none 0 0]) ?_ 1 _ rfl; (with_reducible repeat (first | refine ja ?_ _ | refine jb ?_ | refine jc ?_ _)); refine jm (cs := #[.int .i64 0, .string (⟨#[]⟩ : ByteArray), .slice none 0 0, .int .i64 0, .int .i64 0, .slice none 0 0]) ?_ 0 _ rfl; (with_reducible repeat (first | refine ja ?_ _ | refine jb ?_ | refine jc ?_ _)); exact qn1.out) Try.underlying29 rfl (by kernel_rfl)) rfl ?_
    exact ⟨_, _, by first | rfl | (simp [errW_none, errW_some] <;> rfl) | (simp [*, errW_none, errW_some] <;> rfl), by (with_reducible repeat (first | apply Kd.R_alloc | apply Kd.R_drewN | apply Kd.R_drew)); exact Kd.R_mono (Kd.R_far (p := ⟨ga, 5, none⟩) (Kd.R_far (p := ⟨ga, 4, none⟩) (Kd.R_far (p := ⟨ga, 3, none⟩) (Kd.R_far (p := ⟨ga, 2, none⟩) (Kd.R_far (p := ⟨ga, 1, none⟩) (Kd.R_far (p := ⟨ga, 0, none⟩) (Kd.R_mono HO171.out (fun k_ hk => (⟨hk, hk.2⟩ : _ ∧ k_ ≠ ga))) (fun _ hk => hk.2) (.int .i64 t167)) (fun _ hk => hk.2) (.string t168)) (fun _ hk => hk.2) (.slice Ao20 t169.length co20)) (fun _ hk => hk.2) (.int .i64 t172)) (fun _ hk => hk.2) (.int .i64 t173)) (fun _ hk => hk.2) (.slice Ao21 t174.length co21)) (fun _ hk => hk.1.1), by (with_reducible repeat (first | apply Kd.R_alloc | apply Kd.R_drewN | apply Kd.R_drew)); exact Kd.R_mono (Kd.R_far (p := ⟨ga, 5, none⟩) (Kd.R_far (p := ⟨ga, 4, none⟩) (Kd.R_far (p := ⟨ga, 3, none⟩) (Kd.R_far (p := ⟨ga, 2, none⟩) (Kd.R_far (p := ⟨ga, 1, none⟩) (Kd.R_far (p := ⟨ga, 0, none⟩) (Kd.R_mono HO176.out (fun k_ hk => (⟨hk, hk.2⟩ : _ ∧ k_ ≠ ga))) (fun _ hk => hk.2) (.int .i64 t167)) (fun _ hk => hk.2) (.string t168)) (fun _ hk => hk.2) (.slice Ao20 t169.length co20)) (fun _ hk => hk.2) (.int .i64 t172)) (fun _ hk => hk.2) (.int .i64 t173)) (fun _ hk => hk.2) (.slice Ao21 t174.length co21)) (fun _ hk => hk.1.1), by repeat (first | (with_reducible first | exact HI0.out | apply jn | apply jo | apply jp | apply jq | refine jr ?_ qp.out _) | exact HI0.out), by repeat (first | (with_reducible first | exact HB.out | apply js | apply jt | apply ju | refine jj ?_ (jv HI0.out) | refine jj ?_ qm1.out) | exact HB.out), by repeat (first | (with_reducible first | exact HK.out | apply jg | apply jd | apply je | apply jf | refine keep_far ?_ ql1.out _) | exact HK.out)⟩
   ·rw [if_neg c13] at H
    have c13b0 : (t165 == 1) = false := beq_eq_false_iff_ne.mpr c13
    have c13b1 : (t165 != 1) = true := bne_iff_ne.mpr c13
    by_cases c22 : t165 = 2
    ·rw [if_pos c22] at H
     have c22b0 : (t165 == 2) = true := beq_iff_eq.mpr c22
     have c22b1 : (t165 != 2) = false := bne_eq_false_iff_eq.mpr c22
     clear c22
     replace H := Option.bind_eq_some_iff.mp H
     obtain ⟨⟨t179, t180⟩, A230, H⟩ := H
     replace H : (spec_l13Node.l0 k a1 t179 s0_0 t180 2 (⟨#[]⟩ : ByteArray) ([] : List (S29)) 6 0) = some (r1, r2, r3, r4, r5, r6, r7) := H
     have A23 := Aside0.mk A230
     clear A230
     have H' := Aside0.mk H
     clear H
     go_enter Try.func30, Try.ntmps30
     go_wp2_with (first | ((with_reducible refine gate_dst (N := 4) rfl ?_); refine box_event ?hg (N := 4) ?hd (cs := #[.int .i64 0, .string (⟨#[]⟩ : ByteArray), .slice none 0 0, .int .i64 0, .int .i64 0, .slice none 0 0]) (t := 29) ?hr ?_; (case hd => rfl); (case hg => rfl); (case hr => first | (go_simp; done) | (go_simp; rfl)); intro ga hg w24 hbox hb; have n0_ := Aside0.mk (IsS51.below (by repeat (first | (with_reducible first | exact HI0.out | apply jn | apply jo | apply jp | apply jq) | exact HI0.out)) hb); have n1_ := Aside0.mk (KeepBut.trans (by repeat (first | (with_reducible first | exact HK.out | apply jg | apply jd | apply je | apply jf) | exact HK.out)) (KeepBut.of_below hb g none) (.inl rfl)); have n2_ := Aside0.mk (below_step (by repeat (first | (with_reducible first | exact HB.out | apply js | apply jt | apply ju | refine jj ?_ (jv HI0.out)) | exact HB.out)) hb); have n3_ := Aside0.mk (hbox); have n4_ := Aside0.mk ((by rw [hg]; exact (keep_size (w := w) (g := g) (row := none) (by repeat (first | (with_reducible first | exact HK.out | apply jg | apply jd | apply je | apply jf) | exact HK.out))) : w.heap.size ≤ ga)); have n5_ := Aside0.mk ((Nat.le_trans HW0.out (by rw [hg]; exact (keep_size (w := w) (g := g) (row := none) (by repeat (first | (with_reducible first | exact HK.out | apply jg | apply jd | apply je | apply jf) | exact HK.out))) : w.heap.size ≤ ga) : w0.heap.size ≤ ga)); have n6_ := Aside0.mk ((by rw [hg]; exact Nat.ne_of_lt (IsS51.lt (show IsS51 w0 _ g s0_0 s0_1 from by repeat (first | (with_reducible first | exact HI0.out | apply jn | apply jo | apply jp | apply jq) | exact HI0.out))) : g ≠ ga)); have n7_ := Aside0.mk ((by rw [hg]; exact Nat.ne_of_gt (IsS51.lt (show IsS51 w0 _ g s0_0 s0_1 from by repeat (first | (with_reducible first | exact HI0.out | apply jn | apply jo | apply jp | apply jq) | exact HI0.out))) : ga ≠ g)); clear HI0; clear HK; clear HB; have HI0 := n0_; have HK := n1_; have HB := n2_; have qn1 := n3_; have ql1 := n4_; have qm1 := n5_; have qp := n6_; have qt := n7_; clear n0_ n1_ n2_ n3_ n4_ n5_ n6_ n7_; clear hb hbox hg) | ((with_reducible refine gate_callee (f := 24) rfl ?_); refine goesL_ (some 15) rfl rfl Try.func24 (by kernel_rfl) rfl #[.pointer (some ⟨g, 0, none⟩), .int .i64 6] rfl (by (try simp only [List.map_toArray, List.map_cons, List.map_nil]); first | done | rfl | (simp only [List.length_drop, List.length_take]; rfl)) ?_; (with_reducible refine (spec_l1Rd_pick.calls k g s0_0 s0_1 6 t165 t166 w0 _ ?side1 ?side2 A7.out).mono ?_); (case side1 => repeat (first | (with_reducible first | exact HI0.out | apply jn | apply jo | apply jp | apply jq | refine jr ?_ qp.out _) | exact HI0.out)); (case side2 => repeat (first | (with_reducible first | exact HB.out | apply js | apply jt | apply ju | refine jj ?_ (jv HI0.out) | refine jj ?_ qm1.out) | exact HB.out)); rintro e w25 ⟨rfl, hi, hb, hk⟩; refine ⟨_, rfl, ?_⟩; have n0_ := Aside0.mk (KeepBut.blk hk (g' := ga) (o := .cells #[.int .i64 0, .string (⟨#[]⟩ : ByteArray), .slice none 0 0, .int .i64 0, .int .i64 0, .slice none 0 0] 29 (0, 0)) (by (with_reducible repeat (first | refine ja ?_ _ | refine jb ?_ | refine jc ?_ _)); exact qn1.out) qt.out (by simp)); have n1_ := Aside0.mk (KeepBut.trans (by repeat (first | (with_reducible first | exact HK.out | apply jg | apply jd | apply je | apply jf | refine keep_far ?_ ql1.out _) | exact HK.out)) hk (.inl rfl)); have n2_ := Aside0.mk (hb); have n3_ := Aside0.mk (hi); clear qn1; clear HK; clear HB; clear HI0; have qn1 := n0_; have HK := n1_; have HB := n2_; have HI0 := n3_; clear n0_ n1_ n2_ n3_; (try clear hb); (try clear hb2); (try clear hk); (try clear hi)) | ((with_reducible refine gate_dst (N := 5) rfl ?_); refine box_event ?hg (N := 5) ?hd (cs := #[.int .i64 0, .string (⟨#[]⟩ : ByteArray), .slice none 0 0, .int .i64 0, .int .i64 0, .slice none 0 0]) (t := 29) ?hr ?_; (case hd => rfl); (case hg => rfl); (case hr => first | (go_simp; done) | (go_simp; rfl)); intro gb178 hg w26 hbox hb; have n0_ := Aside0.mk (IsS51.below (by repeat (first | (with_reducible first | exact HI0.out | apply jn | apply jo | apply jp | apply jq | refine jr ?_ qp.out _) | exact HI0.out)) hb); have n1_ := Aside0.mk (jl (g := ga) (o := .cells #[.int .i64 0, .string (⟨#[]⟩ : ByteArray), .slice none 0 0, .int .i64 0, .int .i64 0, .slice none 0 0] 29 (0, 0)) (by (with_reducible repeat (first | refine ja ?_ _ | refine jb ?_ | refine jc ?_ _)); exact qn1.out) hb); have n2_ := Aside0.mk (KeepBut.trans (by repeat (first | (with_reducible first | exact HK.out | apply jg | apply jd | apply je | apply jf | refine keep_far ?_ ql1.out _) | exact HK.out)) (KeepBut.of_below hb g none) (.inl rfl)); have n3_ := Aside0.mk (below_step (by repeat (first | (with_reducible first | exact HB.out | apply js | apply jt | apply ju | refine jj ?_ (jv HI0.out) | refine jj ?_ qm1.out) | exact HB.out)) hb); have n4_ := Aside0.mk (hbox); have n5_ := Aside0.mk ((by rw [hg]; exact (keep_size (w := w) (g := g) (row := none) (by repeat (first | (with_reducible first | exact HK.out | apply jg | apply jd | apply je | apply jf | refine keep_far ?_ ql1.out _) | exact HK.out))) : w.heap.size ≤ gb178)); have n6_ := Aside0.mk ((Nat.le_trans HW0.out (by rw [hg]; exact (keep_size (w := w) (g := g) (row := none) (by repeat (first | (with_reducible first | exact HK.out | apply jg | apply jd | apply je | apply jf | refine keep_far ?_ ql1.out _) | exact HK.out))) : w.heap.size ≤ gb178) : w0.heap.size ≤ gb178)); have n7_ := Aside0.mk ((by rw [hg]; exact Nat.ne_of_lt (blk_lt (g := ga) (o := .cells #[.int .i64 0, .string (⟨#[]⟩ : ByteArray), .slice none 0 0, .int .i64 0, .int .i64 0, .slice none 0 0] 29 (0, 0)) (by (with_reducible repeat (first | refine ja ?_ _ | refine jb ?_ | refine jc ?_ _)); exact qn1.out)) : ga ≠ gb178)); have n8_ := Aside0.mk ((by rw [hg]; exact Nat.ne_of_gt (blk_lt (g := ga) (o := .cells #[.int .i64 0, .string (⟨#[]⟩ : ByteArray), .slice none 0 0, .int .i64 0, .int .i64 0, .slice none 0 0] 29 (0, 0)) (by (with_reducible repeat (first | refine ja ?_ _ | refine jb ?_ | refine jc ?_ _)); exact qn1.out)) : gb178 ≠ ga)); have n9_ := Aside0.mk ((by rw [hg]; exact Nat.ne_of_lt (IsS51.lt (show IsS51 w0 _ g s0_0 t166 from by repeat (first | (with_reducible first | exact HI0.out | apply jn | apply jo | apply jp | apply jq | refine jr ?_ qp.out _) | exact HI0.out))) : g ≠ gb178)); have n10_ := Aside0.mk ((by rw [hg]; exact Nat.ne_of_gt (IsS51.lt (show IsS51 w0 _ g s0_0 t166 from by repeat (first | (with_reducible first | exact HI0.out | apply jn | apply jo | apply jp | apply jq | refine jr ?_ qp.out _) | exact HI0.out))) : gb178 ≠ g)); clear HI0; clear qn1; clear HK; clear HB; have HI0 := n0_; have qn1 := n1_; have HK := n2_; have HB := n3_; have qp1 := n4_; have qo1 := n5_; have qu1 := n6_; have ql := n7_; have qm := n8_; have qu := n9_; have qr := n10_; clear n0_ n1_ n2_ n3_ n4_ n5_ n6_ n7_ n8_ n9_ n10_; clear hb hbox hg; have hnb27 := qm.out; have hnc27 := ql.out; have hnb28 := qr.out; have hnc28 := qu.out; have hcz29_0 : w26.cell? ⟨gb178, 0, none⟩ = some (.int .i64 0) := (jh qp1.out 0).trans rfl; have hcz29_1 : w26.cell? ⟨gb178, 1, none⟩ = some (.string (⟨#[]⟩ : ByteArray)) := (jh qp1.out 1).trans rfl; have hcz29_2 : w26.cell? ⟨gb178, 2, none⟩ = some (.slice none 0 0) := (jh qp1.out 2).trans rfl; have hcz29_3 : w26.cell? ⟨gb178, 3, none⟩ = some (.int .i64 0) := (jh qp1.out 3).trans rfl; have hcz29_4 : w26.cell? ⟨gb178, 4, none⟩ = some (.int .i64 0) := (jh qp1.out 4).trans rfl; have hcz29_5 : w26.cell? ⟨gb178, 5, none⟩ = some (.slice none 0 0) := (jh qp1.out 5).trans rfl; have hfz29_0 := ji qp1.out 0; have hfz29_1 := ji qp1.out 1; have hfz29_2 := ji qp1.out 2; have hfz29_3 := ji qp1.out 3; have hfz29_4 := ji qp1.out 4; have hfz29_5 := ji qp1.out 5) | ((with_reducible refine gate_callee (f := 24) rfl ?_); refine goesL_ (some 27) rfl rfl Try.func24 (by kernel_rfl) rfl #[.pointer (some ⟨g, 0, none⟩), .int .i64 4] rfl (by (try simp only [List.map_toArray, List.map_cons, List.map_nil]); first | done | rfl | (simp only [List.length_drop, List.length_take]; rfl)) ?_; (with_reducible refine (spec_l1Rd_pick.calls k g s0_0 t166 4 t179 t180 w0 _ ?side1 ?side2 A23.out).mono ?_); (case side1 => repeat (first | (with_reducible first | exact HI0.out | apply jn | apply jo | apply jp | apply jq | refine jr ?_ qp.out _ | refine jr ?_ qu.out _) | exact HI0.out)); (case side2 => repeat (first | (with_reducible first | exact HB.out | apply js | apply jt | apply ju | refine jj ?_ (jv HI0.out) | refine jj ?_ qm1.out | refine jj ?_ qu1.out) | exact HB.out)); rintro e w30 ⟨rfl, hi, hb, hk⟩; refine ⟨_, rfl, ?_⟩; have n0_ := Aside0.mk (KeepBut.blk hk (g' := ga) (o := .cells #[.int .i64 0, .string (⟨#[]⟩ : ByteArray), .slice none 0 0, .int .i64 0, .int .i64 0, .slice none 0 0] 29 (0, 0)) (by (with_reducible repeat (first | refine ja ?_ _ | refine jb ?_ | refine jc ?_ _)); refine jk ?_ ql.out _; (with_reducible repeat (first | refine ja ?_ _ | refine jb ?_ | refine jc ?_ _)); refine jk ?_ ql.out _; (with_reducible repeat (first | refine ja ?_ _ | refine jb ?_ | refine jc ?_ _)); refine jk ?_ ql.out _; (with_reducible repeat (first | refine ja ?_ _ | refine jb ?_ | refine jc ?_ _)); refine jk ?_ ql.out _; (with_reducible repeat (first | refine ja ?_ _ | refine jb ?_ | refine jc ?_ _)); refine jk ?_ ql.out _; (with_reducible repeat (first | refine ja ?_ _ | refine jb ?_ | refine jc ?_ _)); refine jk ?_ ql.out _; (with_reducible repeat (first | refine ja ?_ _ | refine jb ?_ | refine jc ?_ _)); exact qn1.out) qt.out (by simp)); have n1_ := Aside0.mk (KeepBut.blk hk (g' := gb178) (o := .cells #[.int .i64 2, .string (⟨#[]⟩ : ByteArray), .slice none 0 0, .int .i64 6, .int .i64 0, .slice none 0 0] 29 (0, 0)) (by (with_reducible repeat (first | refine ja ?_ _ | refine jb ?_ | refine jc ?_ _)); refine jm (cs := #[.int .i64 2, .string (⟨#[]⟩ : ByteArray), .slice none 0 0, .int .i64 6, .int .i64 0, .slice none 0 0]) ?_ 5 _ rfl; (with_reducible repeat (first | refine ja ?_ _ | refine jb ?_ | refine jc ?_ _)); refine jm (cs := #[.int .i64 2, .string (⟨#[]⟩ : ByteArray), .slice none 0 0, .int .i64 6, .int .i64 0, .slice none 0 0]) ?_ 4 _ rfl; (with_reducible repeat (first | refine ja ?_ _ | refine jb ?_ | refine jc ?_ _)); refine jm (cs := #[.int .i64 2, .string (⟨#[]⟩ : ByteArray), .slice none 0 0, .int .i64 0, .int .i64 0, .slice none 0 0]) ?_ 3 _ rfl; (with_reducible repeat (first | refine ja ?_ _ | refine jb ?_ | refine jc ?_ _)); refine jm (cs := #[.int .i64 2, .string (⟨#[]⟩ : ByteArray), .slice none 0 0, .int .i64 0, .int .i64 0, .slice none 0 0]) ?_ 2 _ rfl; (with_reducible repeat (first | refine ja ?_ _ | refine jb ?_ | refine jc ?_ _)); refine jm (cs := #[.int .i64 2, .string (⟨#[]⟩ : ByteArray), .slice none 0 0, .int .i64 0, .int .i64 0, .slice none 0 0]) ?_ 1 _ rfl; (with_reducible repeat (first | refine ja ?_ _ | refine jb ?_ | refine jc ?_ _)); refine jm (cs := #[.int .i64 0, .string (⟨#[]⟩ : ByteArray), .slice none 0 0, .int .i64 0, .int .i64 0, .slice none 0 0]) ?_ 0 _ rfl; (with_reducible repeat (first | refine ja ?_ _ | refine jb ?_ | refine jc ?_ _)); exact qp1.out) qr.out (by simp)); have n2_ := Aside0.mk (KeepBut.trans (by repeat (first | (with_reducible first | exact HK.out | apply jg | apply jd | apply je | apply jf | refine keep_far ?_ ql1.out _ | refine keep_far ?_ qo1.out _) | exact HK.out)) hk (.inl rfl)); have n3_ := Aside0.mk (hb); have n4_ := Aside0.mk (hi); clear qn1; clear qp1; clear HK; clear HB; clear HI0; have qn1 := n0_; have qp1 := n1_; have HK := n2_; have HB := n3_; have HI0 := n4_; clear n0_ n1_ n2_ n3_ n4_; (try clear hb); (try clear hb2); (try clear hk); (try clear hi)))
     go_loopg [6] k (fun kq v6 w' => ∃ (x6_1 : Int) (x1001_1 : Int) (qg : List (S29)) (u179002 : Value), v6 = .int .i64 x6_1 ∧ Aside0 (spec_l13Node.l0 kq a1 x6_1 s0_0 x1001_1 2 (⟨#[]⟩ : ByteArray) qg 6 0 = some (r1, r2, r3, r4, r5, r6, r7)) ∧ Aside0 (kq ≤ k) ∧ Aside0 (Kd.R k29 29 w' w.heap.size (fun k_ => k_ ≠ ga ∧ k_ ≠ gb178) u179002 qg) ∧ Aside0 (w'.heap[ga]? = some (.cells #[.int .i64 0, .string (⟨#[]⟩ : ByteArray), (.slice none 0 0), .int .i64 0, .int .i64 0, (.slice none 0 0)] 29 (0, 0))) ∧ Aside0 (w'.heap[gb178]? = some (.cells #[.int .i64 2, .string (⟨#[]⟩ : ByteArray), u179002, .int .i64 6, .int .i64 0, (.slice none 0 0)] 29 (0, 0))) ∧ Aside0 (IsS51 w0 w' g s0_0 x1001_1) ∧ Aside0 (KeepBut w w' g none) ∧ Aside0 (Below w0.heap.size w0 w'))
     case atStart => exact ⟨(t179), (t180), (([] : List (S29))), (.slice none 0 0), (by first | rfl | (simp; done) | (simp [*]; done)), H', ⟨Nat.le_refl _⟩, ⟨by first | exact Kd.R_nil _ _ _ _ _ | exact Kd.N_nil _ _ _ _ _ | exact Kd.V_nil _ _ _ _ _ | exact Kd.Q_nil _ _ _ _ _ | exact Kd.S_nil _ _ _ _ _⟩, ⟨by (with_reducible repeat (first | refine ja ?_ _ | refine jb ?_ | refine jc ?_ _)); exact qn1.out⟩, ⟨by (with_reducible repeat (first | refine ja ?_ _ | refine jb ?_ | refine jc ?_ _)); exact qp1.out⟩, ⟨by repeat (first | (with_reducible first | exact HI0.out | apply jn | apply jo | apply jp | apply jq | refine jr ?_ qp.out _ | refine jr ?_ qu.out _) | exact HI0.out)⟩, ⟨by repeat (first | (with_reducible first | exact HK.out | apply jg | apply jd | apply je | apply jf | refine keep_far ?_ ql1.out _ | refine keep_far ?_ qo1.out _) | exact HK.out)⟩, ⟨by repeat (first | (with_reducible first | exact HB.out | apply js | apply jt | apply ju | refine jj ?_ (jv HI0.out) | refine jj ?_ qm1.out | refine jj ?_ qu1.out) | exact HB.out)⟩⟩
     case round =>
      clear H'
      try clear c1
      try clear c2
      try clear p2
      try clear c3
      try clear c3b0
      try clear c5
      try clear c8
      try clear c8b0
      try clear c8b1
      try clear c11
      try clear c13
      try clear c13b0
      try clear c13b1
      try clear c18
      try clear c22
      try clear c22b0
      try clear c22b1
      try clear c24
      try clear c27
      try clear c28
      try clear c30
      try clear hcz12_0
      try clear hcz12_1
      try clear hcz12_2
      try clear hcz12_3
      try clear hcz12_4
      try clear hcz12_5
      try clear hcz19_0
      try clear hcz19_1
      try clear hcz19_2
      try clear hcz19_3
      try clear hcz19_4
      try clear hcz19_5
      try clear hcz29_0
      try clear hcz29_1
      try clear hcz29_2
      try clear hcz29_3
      try clear hcz29_4
      try clear hcz29_5
      try clear hcz6_0
      try clear hcz6_1
      try clear hcz6_2
      try clear hcz6_3
      try clear hcz6_4
      try clear hcz6_5
      try clear hfz12_0
      try clear hfz12_1
      try clear hfz12_2
      try clear hfz12_3
      try clear hfz12_4
      try clear hfz12_5
      try clear hfz19_0
      try clear hfz19_1
      try clear hfz19_2
      try clear hfz19_3
      try clear hfz19_4
      try clear hfz19_5
      try clear hfz29_0
      try clear hfz29_1
      try clear hfz29_2
      try clear hfz29_3
      try clear hfz29_4
      try clear hfz29_5
      try clear hfz6_0
      try clear hfz6_1
      try clear hfz6_2
      try clear hfz6_3
      try clear hfz6_4
      try clear hfz6_5
      obtain ⟨x6_1, x1001_1, qg, u179002, rfl, HA, HK1, qe, qn1, qp1, HI0, HK, HB⟩ := hrel
      cases gk with
      | zero => exact absurd HA.out (by simp [spec_l13Node.l0])
      | succ k1 =>
       have H := HA.out
       clear HA
       simp only [spec_l13Node.l0] at H
       by_cases c31 : x6_1 > 0
       ·rw [if_pos c31] at H
        have c31b0 : decide (0 < x6_1) = true := decide_eq_true c31
        clear c31
        replace H := Option.bind_eq_some_iff.mp H
        obtain ⟨⟨t181, t182, t183, t186, t187, t188, t191⟩, A320, H⟩ := H
        replace H : (if qg.length < 1599289640401 then (spec_l13Node.l0 k1 a1 (wrap64 (x6_1 - 1)) s0_0 t191 2 (⟨#[]⟩ : ByteArray) (qg ++ [(⟨t181, t182, t183, t186, t187, t188⟩ : S29)]) 6 0) else (none)) = some (r1, r2, r3, r4, r5, r6, r7) := H
        have A32 := Aside0.mk A320
        clear A320
        by_cases c33 : qg.length < 1599289640401
        ·rw [if_pos c33] at H
         have LMc33 := Aside0.mk c33
         clear c33
         obtain ⟨y192, hy192⟩ : ∃ y_ : List (S29), y_ = (qg ++ [(⟨t181, t182, t183, t186, t187, t188⟩ : S29)]) := ⟨_, rfl⟩
         replace H : (spec_l13Node.l0 k1 a1 (wrap64 (x6_1 - 1)) s0_0 t191 2 (⟨#[]⟩ : ByteArray) y192 6 0) = some (r1, r2, r3, r4, r5, r6, r7) := by first | (rw [hy192]; with_reducible exact H) | (have H2_ := (Option.bind_some _ _).symm.trans H; rw [hy192]; with_reducible exact H2_) | (have H2_ := (Option.bind_some _ _).symm.trans H; with_reducible exact H2_) | with_reducible exact H | (rw [hy192]; exact H) | exact H
         have Ny192 := Aside0.mk hy192
         clear hy192
         have H' := Aside0.mk H
         clear H
         try go_wp2
         have n0_ := Aside0.mk (Kd.R_drew qe.out)
         have n1_ := Aside0.mk (jb qn1.out)
         have n2_ := Aside0.mk (jb qp1.out)
         have n3_ := Aside0.mk (jp HI0.out)
         have n4_ := Aside0.mk (je HK.out)
         have n5_ := Aside0.mk (ju HB.out)
         clear qe
         clear qn1
         clear qp1
         clear HI0
         clear HK
         clear HB
         have qe := n0_
         have qn1 := n1_
         have qp1 := n2_
         have HI0 := n3_
         have HK := n4_
         have HB := n5_
         clear n0_ n1_ n2_ n3_ n4_ n5_
         refine start_ (n := 10) (S := fun w' => w'.cell? ⟨gb178, 0, none⟩ = some (.int .i64 2) ∧ w'.cell? ⟨gb178, 1, none⟩ = some (.string (⟨#[]⟩ : ByteArray)) ∧ w'.cell? ⟨gb178, 2, none⟩ = some (u179002) ∧ w'.cell? ⟨gb178, 3, none⟩ = some (.int .i64 6) ∧ w'.cell? ⟨gb178, 4, none⟩ = some (.int .i64 0) ∧ w'.cell? ⟨gb178, 5, none⟩ = some (.slice none 0 0)) (ds := [9]) #[false, false, false, false, false, false, false, false, false, false] (by kernel_rfl) rfl rfl ⟨(jh qp1.out 0).trans rfl, (jh qp1.out 1).trans rfl, (jh qp1.out 2).trans rfl, (jh qp1.out 3).trans rfl, (jh qp1.out 4).trans rfl, (jh qp1.out 5).trans rfl⟩ (fun hHeld => ?_); refine with_tabW spec_l13Node.tab13 spec_l13Node.bits13 (fun HT_ HW_ => ?_)
         generalize wr.drew = w34 at qe qn1 qp1 HI0 HK HB hHeld ⊢
         refine pure_ (i := 0) (N := some 32) (v := ?_) (a' := ?_) #[true, false, false, false, false, false, false, false, false, false] rfl rfl (any_of HT_.out (by kernel_rfl)) (fun _ _ _ h => h) (Or.inl ⟨by rfl, ?_⟩) ?_ ?_
         rotate_left
         ·intro w'
          go_simp
          with_reducible rfl
         rotate_left
         ·simp only [Act.put, List.setIfInBounds_toArray, List.set_cons_zero, List.set_cons_succ, i64_w, i32_w]
          rfl
         refine pure_ (i := 2) (N := some 34) (v := ?_) (a' := ?_) #[true, false, true, false, false, false, false, false, false, false] rfl rfl (any_of HT_.out (by kernel_rfl)) (fun _ _ _ h => h) (Or.inl ⟨by rfl, ?_⟩) ?_ ?_
         rotate_left
         ·intro w'
          go_simp
          with_reducible rfl
         rotate_left
         ·simp only [Act.put, List.setIfInBounds_toArray, List.set_cons_zero, List.set_cons_succ, i64_w, i32_w]
          rfl
         refine pure_ (i := 3) (N := some 35) (v := ?_) (a' := ?_) #[true, false, true, true, false, false, false, false, false, false] rfl rfl (any_of HT_.out (by kernel_rfl)) (fun _ _ _ h => h) (Or.inl ⟨by rfl, ?_⟩) ?_ ?_
         rotate_left
         ·intro w'
          go_simp
          with_reducible rfl
         rotate_left
         ·simp only [Act.put, List.setIfInBounds_toArray, List.set_cons_zero, List.set_cons_succ, i64_w, i32_w]
          rfl
         refine pure_ (i := 4) (N := some 36) (v := ?_) (a' := ?_) #[true, false, true, true, true, false, false, false, false, false] rfl rfl (any_of HT_.out (by kernel_rfl)) (fun _ _ _ h => h) (Or.inl ⟨by rfl, ?_⟩) ?_ ?_
         rotate_left
         ·intro w'
          go_simp
          with_reducible rfl
         rotate_left
         ·simp only [Act.put, List.setIfInBounds_toArray, List.set_cons_zero, List.set_cons_succ, i64_w, i32_w]
          rfl
         refine take_ (i := 1) (N := some 33) (v := ?_) (a' := ?_) #[true, true, true, true, true, false, false, false, false, false] rfl rfl (take_ofW HT_.out HW_.out (by kernel_rfl)) (fun _ _ _ h => h) (Or.inl ⟨by rfl, ?_⟩) hHeld ?_ ?_
         rotate_left
         ·rintro w' ⟨s0, s1, s2, s3, s4, s5⟩
          go_simp
          with_reducible rfl
         rotate_left
         ·simp only [Act.put, List.setIfInBounds_toArray, List.set_cons_zero, List.set_cons_succ, i64_w, i32_w]
          rfl
         refine one_ (i := 5) (N := some 37) #[true, true, true, true, true, true, false, false, false, false] rfl rfl (one_of HT_.out (by kernel_rfl)) (by decide) (fun K hK => ?_)
         refine goes_ Try.func30 (by kernel_rfl) rfl #[.pointer (some ⟨g, 0, none⟩), .int .i64 (wrap64 (a1 - 1))] (by rfl) rfl rfl (by (try simp only [List.map_toArray, List.map_cons, List.map_nil]); first | done | rfl | (simp only [List.length_drop, List.length_take]; rfl)) ?_
         with_reducible refine (ih k1 (by have := HK1.out; omega) g s0_0 x1001_1 (wrap64 (a1 - 1)) t181 t182 t183 t186 t187 t188 t191 w0 _ ?side1 ?side2 A32.out).mono ?_
         (case side1 => repeat (first | (with_reducible first | exact HI0.out | apply jn | apply jo | apply jp | apply jq | refine jr ?_ qp.out _ | refine jr ?_ qu.out _) | exact HI0.out))
         (case side2 => repeat (first | (with_reducible first | exact HB.out | apply js | apply jt | apply ju | refine jj ?_ (jv HI0.out) | refine jj ?_ qm1.out | refine jj ?_ qu1.out) | exact HB.out))
         rintro e w35 ⟨v184, v189, rfl, ho0, ho1, hi, hb, hk⟩
         refine ⟨_, rfl, ?_⟩
         have n0_ := Aside0.mk (Kd.R_mono (Kd.R_told (Kd.R_told (Kd.R_oldK (IsS51.apart (show IsS51 w0 _ g s0_0 x1001_1 from by repeat (first | (with_reducible first | exact HI0.out | apply jn | apply jo | apply jp | apply jq | refine jr ?_ qp.out _ | refine jr ?_ qu.out _) | exact HI0.out)) (by (with_reducible repeat (first | apply Kd.R_alloc | apply Kd.R_drewN | apply Kd.R_drew)); exact qe.out) (by decide)) hk) (Kd.R_base ho0)) (Kd.R_base ho1)) (fun _ h_ => h_.1))
         have n1_ := Aside0.mk (KeepBut.blk hk (g' := ga) (o := .cells #[.int .i64 0, .string (⟨#[]⟩ : ByteArray), .slice none 0 0, .int .i64 0, .int .i64 0, .slice none 0 0] 29 (0, 0)) (by (with_reducible repeat (first | refine ja ?_ _ | refine jb ?_ | refine jc ?_ _)); exact qn1.out) qt.out (by simp))
         have n2_ := Aside0.mk (KeepBut.blk hk (g' := gb178) (o := .cells #[.int .i64 2, .string (⟨#[]⟩ : ByteArray), u179002, .int .i64 6, .int .i64 0, .slice none 0 0] 29 (0, 0)) (by (with_reducible repeat (first | refine ja ?_ _ | refine jb ?_ | refine jc ?_ _)); exact qp1.out) qr.out (by simp))
         have n3_ := Aside0.mk (Kd.R_lower (Kd.R_newB (Kd.R_newB (Kd.R_new' ho0 (Kd.R_lt (by (with_reducible repeat (first | apply Kd.R_alloc | apply Kd.R_drewN | apply Kd.R_drew)); exact qe.out))) (g := ga) (o := .cells #[.int .i64 0, .string (⟨#[]⟩ : ByteArray), .slice none 0 0, .int .i64 0, .int .i64 0, .slice none 0 0] 29 (0, 0)) (by (with_reducible repeat (first | refine ja ?_ _ | refine jb ?_ | refine jc ?_ _)); exact qn1.out)) (g := gb178) (o := .cells #[.int .i64 2, .string (⟨#[]⟩ : ByteArray), u179002, .int .i64 6, .int .i64 0, .slice none 0 0] 29 (0, 0)) (by (with_reducible repeat (first | refine ja ?_ _ | refine jb ?_ | refine jc ?_ _)); exact qp1.out)) (keep_size (w := w) (g := g) (row := none) (by repeat (first | (with_reducible first | exact HK.out | apply jg | apply jd | apply je | apply jf | refine keep_far ?_ ql1.out _ | refine keep_far ?_ qo1.out _) | exact HK.out))))
         have n4_ := Aside0.mk (Kd.R_lower (Kd.R_newB (Kd.R_newB (Kd.R_new' ho1 (Kd.R_lt (by (with_reducible repeat (first | apply Kd.R_alloc | apply Kd.R_drewN | apply Kd.R_drew)); exact qe.out))) (g := ga) (o := .cells #[.int .i64 0, .string (⟨#[]⟩ : ByteArray), .slice none 0 0, .int .i64 0, .int .i64 0, .slice none 0 0] 29 (0, 0)) (by (with_reducible repeat (first | refine ja ?_ _ | refine jb ?_ | refine jc ?_ _)); exact qn1.out)) (g := gb178) (o := .cells #[.int .i64 2, .string (⟨#[]⟩ : ByteArray), u179002, .int .i64 6, .int .i64 0, .slice none 0 0] 29 (0, 0)) (by (with_reducible repeat (first | refine ja ?_ _ | refine jb ?_ | refine jc ?_ _)); exact qp1.out)) (keep_size (w := w) (g := g) (row := none) (by repeat (first | (with_reducible first | exact HK.out | apply jg | apply jd | apply je | apply jf | refine keep_far ?_ ql1.out _ | refine keep_far ?_ qo1.out _) | exact HK.out))))
         have n5_ := Aside0.mk (KeepBut.trans (by repeat (first | (with_reducible first | exact HK.out | apply jg | apply jd | apply je | apply jf | refine keep_far ?_ ql1.out _ | refine keep_far ?_ qo1.out _) | exact HK.out)) hk (.inl rfl))
         have n6_ := Aside0.mk (hb)
         have n7_ := Aside0.mk (hi)
         clear qe
         clear qn1
         clear qp1
         clear HK
         clear HB
         clear HI0
         have qe := n0_
         have qn1 := n1_
         have qp1 := n2_
         have HO185 := n3_
         have HO190 := n4_
         have HK := n5_
         have HB := n6_
         have HI0 := n7_
         clear n0_ n1_ n2_ n3_ n4_ n5_ n6_ n7_
         (try clear hb)
         (try clear hb2)
         (try clear hk)
         (try clear hi)
         (try clear ho0)
         (try clear ho1)
         obtain ⟨Ao37, co37, eo37⟩ := Kd.R_slice HO185.out
         (first | subst eo37 | (injection eo37 with f1_ f2_ f3_; have f4_ := f1_.symm; have f5_ := f3_.symm; clear f1_ f2_ f3_; subst f4_; subst f5_))
         obtain ⟨Ao38, co38, eo38⟩ := Kd.R_slice HO190.out
         (first | subst eo38 | (injection eo38 with f1_ f2_ f3_; have f4_ := f1_.symm; have f5_ := f3_.symm; clear f1_ f2_ f3_; subst f4_; subst f5_))
         refine hK.out _ _ ⟨(jh qp1.out 0).trans rfl, (jh qp1.out 1).trans rfl, (jh qp1.out 2).trans rfl, (jh qp1.out 3).trans rfl, (jh qp1.out 4).trans rfl, (jh qp1.out 5).trans rfl⟩ (fun hHeld => ?_)
         clear hK K
         refine norm_ (a' := ?_) ?_ ?_
         rotate_left
         ·show Act.put _ (some 37) _ = _
          simp only [Act.put, List.setIfInBounds_toArray, List.set_cons_zero, List.set_cons_succ, i64_w, i32_w]
          rfl
         refine one_ (i := 6) (N := some 38) #[true, true, true, true, true, true, true, false, false, false] rfl rfl (one_of HT_.out (by kernel_rfl)) (by decide) (fun K hK => ?_)
         refine value_ (w1 := ?_) (v := ?_) (by rfl) rfl ?_ ?_
         rotate_left 2
         ·go_simp
          constructor
          ·rfl
          ·rfl
         refine hK.out _ _ ⟨(jh (jc qp1.out _) 0).trans rfl, (jh (jc qp1.out _) 1).trans rfl, (jh (jc qp1.out _) 2).trans rfl, (jh (jc qp1.out _) 3).trans rfl, (jh (jc qp1.out _) 4).trans rfl, (jh (jc qp1.out _) 5).trans rfl⟩ (fun hHeld => ?_)
         clear hK K
         refine norm_ (a' := ?_) ?_ ?_
         rotate_left
         ·show Act.put _ (some 38) _ = _
          simp only [Act.put, List.setIfInBounds_toArray, List.set_cons_zero, List.set_cons_succ, i64_w, i32_w]
          rfl
         refine one_ (i := 7) (N := some 39) #[true, true, true, true, true, true, true, true, false, false] rfl rfl (one_of HT_.out (by kernel_rfl)) (by decide) (fun K hK => ?_)
         refine Kd.R_append_step k29 w.heap.size (by rfl) (.tmp 33) (.tmp 38) 27 29 (.agg #[(.int .i64 0), (.string ⟨#[]⟩), (.slice none 0 0), (.int .i64 0), (.int .i64 0), (.slice none 0 0)]) 88 rfl Try.underlying27 info29 rfl (by decide) (by omega) u179002 qg (⟨t181, t182, t183, t186, t187, t188⟩ : S29) [.int .i64 t181, .string t182, .slice Ao37 t183.length co37, .int .i64 t186, .int .i64 t187, .slice Ao38 t188.length co38] (fun k_ => k_ ≠ ga ∧ k_ ≠ gb178) (fun k_ => ((fun k_ => k_ ≠ ga ∧ k_ ≠ gb178)) k_ ∧ some k_ ≠ (u179002 : Value).ownBlock) rfl rfl ?aP (fun _ hk => hk) ?aF ?aO (Below.refl _ _) ?aS ?aL ?_
         (case aP => exact k29_mkM _ _ _ (⟨t181, t182, t183, t186, t187, t188⟩ : S29) (Kd.R_mono (HO185.out) (fun k_ hk => ⟨⟨hk.1.2, hk.2⟩, hk.1.1.2⟩)) (Kd.R_mono (HO190.out) (fun k_ hk => ⟨⟨hk.1.2, hk.2⟩, hk.1.1.2⟩)))
         (case aF => exact (fun k_ hk => ⟨Kd.freshB (g := ga) (o := .cells #[.int .i64 0, .string (⟨#[]⟩ : ByteArray), .slice none 0 0, .int .i64 0, .int .i64 0, .slice none 0 0] 29 (0, 0)) (by (with_reducible repeat (first | refine ja ?_ _ | refine jb ?_ | refine jc ?_ _)); exact qn1.out) k_ hk, Kd.freshB (g := gb178) (o := .cells #[.int .i64 2, .string (⟨#[]⟩ : ByteArray), u179002, .int .i64 6, .int .i64 0, .slice none 0 0] 29 (0, 0)) (by (with_reducible repeat (first | refine ja ?_ _ | refine jb ?_ | refine jc ?_ _)); exact qp1.out) k_ hk⟩))
         (case aO => exact (by (with_reducible repeat (first | apply Kd.R_alloc | apply Kd.R_drewN | apply Kd.R_drew)); exact Kd.R_mono qe.out (fun _ hk => ⟨hk.1.1.1, hk.1.1.2⟩)))
         (case aS => exact (keep_size (w := w) (g := g) (row := none) (by repeat (first | (with_reducible first | exact HK.out | apply jg | apply jd | apply je | apply jf | refine keep_far ?_ ql1.out _ | refine keep_far ?_ qo1.out _) | exact HK.out))))
         (case aL => have := LMc33.out; omega)
         intro v193 w36 ho hb hg hat
         rw [← Ny192.out] at ho
         have n0_ := Aside0.mk (blk_grown (g := ga) (o := .cells #[.int .i64 0, .string (⟨#[]⟩ : ByteArray), .slice none 0 0, .int .i64 0, .int .i64 0, .slice none 0 0] 29 (0, 0)) (by (with_reducible repeat (first | refine ja ?_ _ | refine jb ?_ | refine jc ?_ _)); exact qn1.out) hg (Kd.R_away qe.out (fun _ hk => hk.1.1.1)))
         have n1_ := Aside0.mk (blk_grown (g := gb178) (o := .cells #[.int .i64 2, .string (⟨#[]⟩ : ByteArray), u179002, .int .i64 6, .int .i64 0, .slice none 0 0] 29 (0, 0)) (by (with_reducible repeat (first | refine ja ?_ _ | refine jb ?_ | refine jc ?_ _)); exact qp1.out) hg (Kd.R_away qe.out (fun _ hk => hk.1.1.2)))
         have n2_ := Aside0.mk (IsS51.grown (by repeat (first | (with_reducible first | exact HI0.out | apply jn | apply jo | apply jp | apply jq | refine jr ?_ qp.out _ | refine jr ?_ qu.out _) | exact HI0.out)) hg (IsS51.own_ne HI0.out qe.out (by decide)))
         have n3_ := Aside0.mk (below_weaken (by repeat (first | (with_reducible first | exact HB.out | apply js | apply jt | apply ju | refine jj ?_ (jv HI0.out) | refine jj ?_ qm1.out | refine jj ?_ qu1.out) | exact HB.out)) HL.out hb)
         have n4_ := Aside0.mk (KeepBut.trans (by repeat (first | (with_reducible first | exact HK.out | apply jg | apply jd | apply je | apply jf | refine keep_far ?_ ql1.out _ | refine keep_far ?_ qo1.out _) | exact HK.out)) (KeepBut.of_grown hg g) (Kd.R_base2 qe.out))
         have n5_ := Aside0.mk (ho)
         clear qn1
         clear qp1
         clear HI0
         clear HB
         clear HK
         clear qe
         clear HO185
         clear HO190
         have qn1 := n0_
         have qp1 := n1_
         have HI0 := n2_
         have HB := n3_
         have HK := n4_
         have HO194 := n5_
         clear n0_ n1_ n2_ n3_ n4_ n5_
         clear ho hb hg hat
         obtain ⟨Ao39, co39, eo39⟩ := Kd.R_slice HO194.out
         (first | subst eo39 | (injection eo39 with f1_ f2_ f3_; have f4_ := f1_.symm; have f5_ := f3_.symm; clear f1_ f2_ f3_; subst f4_; subst f5_))
         refine hK.out _ _ ⟨(jh qp1.out 0).trans rfl, (jh qp1.out 1).trans rfl, (jh qp1.out 2).trans rfl, (jh qp1.out 3).trans rfl, (jh qp1.out 4).trans rfl, (jh qp1.out 5).trans rfl⟩ (fun hHeld => ?_)
         clear hK K
         refine norm_ (a' := ?_) ?_ ?_
         rotate_left
         ·show Act.put _ (some 39) _ = _
          simp only [Act.put, List.setIfInBounds_toArray, List.set_cons_zero, List.set_cons_succ, i64_w, i32_w]
          rfl
         refine pure_ (i := 8) (N := some 40) (v := ?_) (a' := ?_) #[true, true, true, true, true, true, true, true, true, false] rfl rfl (any_of HT_.out (by kernel_rfl)) (fun _ _ _ h => h) (Or.inl ⟨by rfl, ?_⟩) ?_ ?_
         rotate_left
         ·intro w'
          go_simp
          with_reducible rfl
         rotate_left
         ·simp only [Act.put, List.setIfInBounds_toArray, List.set_cons_zero, List.set_cons_succ, i64_w, i32_w]
          rfl
         refine last_ (i := 9) (N := none) #[true, true, true, true, true, true, true, true, true, true] rfl rfl (one_of HT_.out (by kernel_rfl)) (by decide) (fun K hK => ?_)
         have hs40 : w36.cell? ⟨gb178, 2, none⟩ = some (u179002) := (jh qp1.out 2).trans rfl
         have hfs40 := ji qp1.out 2
         have hns40_0 := ql.out
         have hms40_0 := qm.out
         refine skip_ (w1 := ?_) (by rfl) rfl ?_ ?_
         rotate_left
         ·go_simp
          rfl
         refine hK.out _ _ ?_
         clear hK K
         refine done_ (done_of HT_.out (by kernel_rfl)) ?_
         try go_wp2
         go_roundg k1
         case measure => have := HK1.out; omega
         case rel => exact ⟨(wrap64 (x6_1 - 1)), (t191), (y192), (.slice Ao39 y192.length co39), (by first | rfl | (simp; done) | (simp [*]; done)), H', ⟨by have := HK1.out; omega⟩, ⟨by (with_reducible repeat (first | apply Kd.R_alloc | apply Kd.R_drewN | apply Kd.R_drew)); exact Kd.R_mono (Kd.R_far (p := ⟨gb178, 2, none⟩) (Kd.R_mono HO194.out (fun k_ hk => (⟨hk, hk.2⟩ : _ ∧ k_ ≠ gb178))) (fun _ hk => hk.2) (.slice Ao39 y192.length co39)) (fun _ hk => ⟨hk.1.1, hk.1.2⟩)⟩, ⟨by (with_reducible repeat (first | refine ja ?_ _ | refine jb ?_ | refine jc ?_ _)); refine jk ?_ ql.out _; (with_reducible repeat (first | refine ja ?_ _ | refine jb ?_ | refine jc ?_ _)); exact qn1.out⟩, ⟨by (with_reducible repeat (first | refine ja ?_ _ | refine jb ?_ | refine jc ?_ _)); refine jm (cs := #[.int .i64 2, .string (⟨#[]⟩ : ByteArray), u179002, .int .i64 6, .int .i64 0, .slice none 0 0]) ?_ 2 _ rfl; (with_reducible repeat (first | refine ja ?_ _ | refine jb ?_ | refine jc ?_ _)); exact qp1.out⟩, ⟨by repeat (first | (with_reducible first | exact HI0.out | apply jn | apply jo | apply jp | apply jq | refine jr ?_ qp.out _ | refine jr ?_ qu.out _) | exact HI0.out)⟩, ⟨by repeat (first | (with_reducible first | exact HK.out | apply jg | apply jd | apply je | apply jf | refine keep_far ?_ ql1.out _ | refine keep_far ?_ qo1.out _) | exact HK.out)⟩, ⟨by repeat (first | (with_reducible first | exact HB.out | apply js | apply jt | apply ju | refine jj ?_ (jv HI0.out) | refine jj ?_ qm1.out | refine jj ?_ qu1.out) | exact HB.out)⟩⟩
        ·rw [if_neg c33] at H
         exact absurd H (by simp)
       ·rw [if_neg c31] at H
        have c31b0 : decide (0 < x6_1) = false := decide_eq_false c31
        clear c31
        simp only [Option.some.injEq, Prod.mk.injEq] at H
        obtain ⟨rfl, rfl, rfl, rfl, rfl, rfl, rfl⟩ := H
        have hnb41 := qm.out
        have hnc41 := ql.out
        have hnb42 := qr.out
        have hnc42 := qu.out
        have hcz43_0 : wr.cell? ⟨gb178, 0, none⟩ = some (.int .i64 2) := (jh qp1.out 0).trans rfl
        have hcz43_1 : wr.cell? ⟨gb178, 1, none⟩ = some (.string (⟨#[]⟩ : ByteArray)) := (jh qp1.out 1).trans rfl
        have hcz43_2 : wr.cell? ⟨gb178, 2, none⟩ = some (u179002) := (jh qp1.out 2).trans rfl
        have hcz43_3 : wr.cell? ⟨gb178, 3, none⟩ = some (.int .i64 6) := (jh qp1.out 3).trans rfl
        have hcz43_4 : wr.cell? ⟨gb178, 4, none⟩ = some (.int .i64 0) := (jh qp1.out 4).trans rfl
        have hcz43_5 : wr.cell? ⟨gb178, 5, none⟩ = some (.slice none 0 0) := (jh qp1.out 5).trans rfl
        have hfz43_0 := ji qp1.out 0
        have hfz43_1 := ji qp1.out 1
        have hfz43_2 := ji qp1.out 2
        have hfz43_3 := ji qp1.out 3
        have hfz43_4 := ji qp1.out 4
        have hfz43_5 := ji qp1.out 5
        obtain ⟨Ao44, co44, eo44⟩ := Kd.R_slice qe.out
        subst eo44
        have hnb45 := qt.out
        have hnc45 := qp.out
        have hcz46_0 : wr.cell? ⟨ga, 0, none⟩ = some (.int .i64 0) := (jh qn1.out 0).trans rfl
        have hcz46_1 : wr.cell? ⟨ga, 1, none⟩ = some (.string (⟨#[]⟩ : ByteArray)) := (jh qn1.out 1).trans rfl
        have hcz46_2 : wr.cell? ⟨ga, 2, none⟩ = some (.slice none 0 0) := (jh qn1.out 2).trans rfl
        have hcz46_3 : wr.cell? ⟨ga, 3, none⟩ = some (.int .i64 0) := (jh qn1.out 3).trans rfl
        have hcz46_4 : wr.cell? ⟨ga, 4, none⟩ = some (.int .i64 0) := (jh qn1.out 4).trans rfl
        have hcz46_5 : wr.cell? ⟨ga, 5, none⟩ = some (.slice none 0 0) := (jh qn1.out 5).trans rfl
        have hfz46_0 := ji qn1.out 0
        have hfz46_1 := ji qn1.out 1
        have hfz46_2 := ji qn1.out 2
        have hfz46_3 := ji qn1.out 3
        have hfz46_4 := ji qn1.out 4
        have hfz46_5 := ji qn1.out 5
        go_wp2
        refine bodyPost_ret (results_cell_row rfl _ _ ga 29 #[.int .i64 2, .string (⟨#[]⟩ : ByteArray), .slice Ao44 qg.length co44, .int .i64 6, .int .i64 (qg.length : Int), .slice none 0 0] (0, 0) _ rfl (by (with_reducible repeat (first | refine ja ?_ _ | refine jb ?_ | refine jc ?_ _)); refine jm (cs := #[.int .i64 2, .string (⟨#[]⟩ : ByteArray), .slice Ao44 qg.length co44, .int .i64 6, .int .i64 (qg.length : Int), .slice none 0 0]) ?_ 5 _ rfl; (with_reducible repeat (first | refine ja ?_ _ | refine jb ?_ | refine jc ?_ _)); refine jm (cs := #[.int .i64 2, .string (⟨#[]⟩ : ByteArray), .slice Ao44 qg.length co44, .int .i64 6, .int .i64 0, .slice none 0 0]) ?_ 4 _ rfl; (with_reducible repeat (first | refine ja ?_ _ | refine jb ?_ | refine jc ?_ _)); refine jm (cs := #[.int .i64 2, .string (⟨#[]⟩ : ByteArray), .slice Ao44 qg.length co44, .int .i64 0, .int .i64 0, .slice none 0 0]) ?_ 3 _ rfl; (with_reducible repeat (first | refine ja ?_ _ | refine jb ?_ | refine jc ?_ _)); refine jm (cs := #[.int .i64 2, .string (⟨#[]⟩ : ByteArray), .slice none 0 0, .int .i64 0, .int .i64 0, .slice none 0 0]) ?_ 2 _ rfl; (with_reducible repeat (first | refine ja ?_ _ | refine jb ?_ | refine jc ?_ _)); refine jm (cs := #[.int .i64 2, .string (⟨#[]⟩ : ByteArray), .slice none 0 0, .int .i64 0, .int .i64 0, .slice none 0 0]) ?_ 1 _ rfl; (with_reducible repeat (first | refine ja ?_ _ | refine jb ?_ | refine jc ?_ _)); refine jm (cs := #[.int .i64 0, .string (⟨#[]⟩ : ByteArray), .slice none 0 0, .int .i64 0, .int .i64 0, .slice none 0 0]) ?_ 0 _ rfl; (with_reducible repeat (first | refine ja ?_ _ | refine jb ?_ | refine jc ?_ _)); refine jk ?_ ql.out _; (with_reducible repeat (first | refine ja ?_ _ | refine jb ?_ | refine jc ?_ _)); exact qn1.out) Try.underlying29 rfl (by kernel_rfl)) rfl ?_
        exact ⟨_, _, by first | rfl | (simp [errW_none, errW_some] <;> rfl) | (simp [*, errW_none, errW_some] <;> rfl), by (with_reducible repeat (first | apply Kd.R_alloc | apply Kd.R_drewN | apply Kd.R_drew)); exact Kd.R_mono (Kd.R_far (p := ⟨ga, 5, none⟩) (Kd.R_far (p := ⟨ga, 4, none⟩) (Kd.R_far (p := ⟨ga, 3, none⟩) (Kd.R_far (p := ⟨ga, 2, none⟩) (Kd.R_far (p := ⟨ga, 1, none⟩) (Kd.R_far (p := ⟨ga, 0, none⟩) (Kd.R_far (p := ⟨gb178, 4, none⟩) (Kd.R_mono (Kd.R_mono qe.out (fun k_ hk => (⟨hk, hk.2⟩ : _ ∧ k_ ≠ gb178))) (fun k_ hk => (⟨hk, hk.1.1⟩ : _ ∧ k_ ≠ ga))) (fun _ hk => hk.1.2) (.int .i64 (qg.length : Int))) (fun _ hk => hk.2) (.int .i64 2)) (fun _ hk => hk.2) (.string (⟨#[]⟩ : ByteArray))) (fun _ hk => hk.2) (.slice Ao44 qg.length co44)) (fun _ hk => hk.2) (.int .i64 6)) (fun _ hk => hk.2) (.int .i64 (qg.length : Int))) (fun _ hk => hk.2) (.slice none 0 0)) (fun _ hk => (by simp [Value.ownBlock])), by first | exact Kd.R_nil _ _ _ _ _ | exact Kd.N_nil _ _ _ _ _ | exact Kd.V_nil _ _ _ _ _ | exact Kd.Q_nil _ _ _ _ _ | exact Kd.S_nil _ _ _ _ _, by repeat (first | (with_reducible first | exact HI0.out | apply jn | apply jo | apply jp | apply jq | refine jr ?_ qp.out _ | refine jr ?_ qu.out _) | exact HI0.out), by repeat (first | (with_reducible first | exact HB.out | apply js | apply jt | apply ju | refine jj ?_ (jv HI0.out) | refine jj ?_ qm1.out | refine jj ?_ qu1.out) | exact HB.out), by repeat (first | (with_reducible first | exact HK.out | apply jg | apply jd | apply je | apply jf | refine keep_far ?_ ql1.out _ | refine keep_far ?_ qo1.out _) | exact HK.out)⟩
    ·rw [if_neg c22] at H
     have c22b0 : (t165 == 2) = false := beq_eq_false_iff_ne.mpr c22
     have c22b1 : (t165 != 2) = true := bne_iff_ne.mpr c22
     by_cases c47 : t165 = 3
     ·rw [if_pos c47] at H
      have c47b0 : (t165 == 3) = true := beq_iff_eq.mpr c47
      have c47b1 : (t165 != 3) = false := bne_eq_false_iff_eq.mpr c47
      clear c47
      replace H := Option.bind_eq_some_iff.mp H
      obtain ⟨⟨t196, t197⟩, A480, H⟩ := H
      replace H : ((spec_l1Rd_pick.f k s0_0 t197 3).bind fun bt198 => ((spec_l1Rd_pick.f k s0_0 bt198.2 4).bind fun bt200 => (spec_l13Node.l1 k a1 t196 bt198.1 bt200.1 s0_0 bt200.2 2 (⟨#[]⟩ : ByteArray) 7 0 ([] : List (S29))))) = some (r1, r2, r3, r4, r5, r6, r7) := H
      have A48 := Aside0.mk A480
      clear A480
      replace H := Option.bind_eq_some_iff.mp H
      obtain ⟨⟨t198, t199⟩, A490, H⟩ := H
      replace H : ((spec_l1Rd_pick.f k s0_0 t199 4).bind fun bt200 => (spec_l13Node.l1 k a1 t196 t198 bt200.1 s0_0 bt200.2 2 (⟨#[]⟩ : ByteArray) 7 0 ([] : List (S29)))) = some (r1, r2, r3, r4, r5, r6, r7) := H
      have A49 := Aside0.mk A490
      clear A490
      replace H := Option.bind_eq_some_iff.mp H
      obtain ⟨⟨t200, t201⟩, A500, H⟩ := H
      replace H : (spec_l13Node.l1 k a1 t196 t198 t200 s0_0 t201 2 (⟨#[]⟩ : ByteArray) 7 0 ([] : List (S29))) = some (r1, r2, r3, r4, r5, r6, r7) := H
      have A50 := Aside0.mk A500
      clear A500
      have H' := Aside0.mk H
      clear H
      go_enter Try.func30, Try.ntmps30
      go_wp2_with (first | ((with_reducible refine gate_dst (N := 4) rfl ?_); refine box_event ?hg (N := 4) ?hd (cs := #[.int .i64 0, .string (⟨#[]⟩ : ByteArray), .slice none 0 0, .int .i64 0, .int .i64 0, .slice none 0 0]) (t := 29) ?hr ?_; (case hd => rfl); (case hg => rfl); (case hr => first | (go_simp; done) | (go_simp; rfl)); intro ga hg w51 hbox hb; have n0_ := Aside0.mk (IsS51.below (by repeat (first | (with_reducible first | exact HI0.out | apply jn | apply jo | apply jp | apply jq) | exact HI0.out)) hb); have n1_ := Aside0.mk (KeepBut.trans (by repeat (first | (with_reducible first | exact HK.out | apply jg | apply jd | apply je | apply jf) | exact HK.out)) (KeepBut.of_below hb g none) (.inl rfl)); have n2_ := Aside0.mk (below_step (by repeat (first | (with_reducible first | exact HB.out | apply js | apply jt | apply ju | refine jj ?_ (jv HI0.out)) | exact HB.out)) hb); have n3_ := Aside0.mk (hbox); have n4_ := Aside0.mk ((by rw [hg]; exact (keep_size (w := w) (g := g) (row := none) (by repeat (first | (with_reducible first | exact HK.out | apply jg | apply jd | apply je | apply jf) | exact HK.out))) : w.heap.size ≤ ga)); have n5_ := Aside0.mk ((Nat.le_trans HW0.out (by rw [hg]; exact (keep_size (w := w) (g := g) (row := none) (by repeat (first | (with_reducible first | exact HK.out | apply jg | apply jd | apply je | apply jf) | exact HK.out))) : w.heap.size ≤ ga) : w0.heap.size ≤ ga)); have n6_ := Aside0.mk ((by rw [hg]; exact Nat.ne_of_lt (IsS51.lt (show IsS51 w0 _ g s0_0 s0_1 from by repeat (first | (with_reducible first | exact HI0.out | apply jn | apply jo | apply jp | apply jq) | exact HI0.out))) : g ≠ ga)); have n7_ := Aside0.mk ((by rw [hg]; exact Nat.ne_of_gt (IsS51.lt (show IsS51 w0 _ g s0_0 s0_1 from by repeat (first | (with_reducible first | exact HI0.out | apply jn | apply jo | apply jp | apply jq) | exact HI0.out))) : ga ≠ g)); clear HI0; clear HK; clear HB; have HI0 := n0_; have HK := n1_; have HB := n2_; have qn1 := n3_; have ql1 := n4_; have qm1 := n5_; have qp := n6_; have qt := n7_; clear n0_ n1_ n2_ n3_ n4_ n5_ n6_ n7_; clear hb hbox hg) | ((with_reducible refine gate_callee (f := 24) rfl ?_); refine goesL_ (some 15) rfl rfl Try.func24 (by kernel_rfl) rfl #[.pointer (some ⟨g, 0, none⟩), .int .i64 6] rfl (by (try simp only [List.map_toArray, List.map_cons, List.map_nil]); first | done | rfl | (simp only [List.length_drop, List.length_take]; rfl)) ?_; (with_reducible refine (spec_l1Rd_pick.calls k g s0_0 s0_1 6 t165 t166 w0 _ ?side1 ?side2 A7.out).mono ?_); (case side1 => repeat (first | (with_reducible first | exact HI0.out | apply jn | apply jo | apply jp | apply jq | refine jr ?_ qp.out _) | exact HI0.out)); (case side2 => repeat (first | (with_reducible first | exact HB.out | apply js | apply jt | apply ju | refine jj ?_ (jv HI0.out) | refine jj ?_ qm1.out) | exact HB.out)); rintro e w52 ⟨rfl, hi, hb, hk⟩; refine ⟨_, rfl, ?_⟩; have n0_ := Aside0.mk (KeepBut.blk hk (g' := ga) (o := .cells #[.int .i64 0, .string (⟨#[]⟩ : ByteArray), .slice none 0 0, .int .i64 0, .int .i64 0, .slice none 0 0] 29 (0, 0)) (by (with_reducible repeat (first | refine ja ?_ _ | refine jb ?_ | refine jc ?_ _)); exact qn1.out) qt.out (by simp)); have n1_ := Aside0.mk (KeepBut.trans (by repeat (first | (with_reducible first | exact HK.out | apply jg | apply jd | apply je | apply jf | refine keep_far ?_ ql1.out _) | exact HK.out)) hk (.inl rfl)); have n2_ := Aside0.mk (hb); have n3_ := Aside0.mk (hi); clear qn1; clear HK; clear HB; clear HI0; have qn1 := n0_; have HK := n1_; have HB := n2_; have HI0 := n3_; clear n0_ n1_ n2_ n3_; (try clear hb); (try clear hb2); (try clear hk); (try clear hi)) | ((with_reducible refine gate_dst (N := 7) rfl ?_); refine box_event ?hg (N := 7) ?hd (cs := #[.int .i64 0, .string (⟨#[]⟩ : ByteArray), .slice none 0 0, .int .i64 0, .int .i64 0, .slice none 0 0]) (t := 29) ?hr ?_; (case hd => rfl); (case hg => rfl); (case hr => first | (go_simp; done) | (go_simp; rfl)); intro gb195 hg w53 hbox hb; have n0_ := Aside0.mk (IsS51.below (by repeat (first | (with_reducible first | exact HI0.out | apply jn | apply jo | apply jp | apply jq | refine jr ?_ qp.out _) | exact HI0.out)) hb); have n1_ := Aside0.mk (jl (g := ga) (o := .cells #[.int .i64 0, .string (⟨#[]⟩ : ByteArray), .slice none 0 0, .int .i64 0, .int .i64 0, .slice none 0 0] 29 (0, 0)) (by (with_reducible repeat (first | refine ja ?_ _ | refine jb ?_ | refine jc ?_ _)); exact qn1.out) hb); have n2_ := Aside0.mk (KeepBut.trans (by repeat (first | (with_reducible first | exact HK.out | apply jg | apply jd | apply je | apply jf | refine keep_far ?_ ql1.out _) | exact HK.out)) (KeepBut.of_below hb g none) (.inl rfl)); have n3_ := Aside0.mk (below_step (by repeat (first | (with_reducible first | exact HB.out | apply js | apply jt | apply ju | refine jj ?_ (jv HI0.out) | refine jj ?_ qm1.out) | exact HB.out)) hb); have n4_ := Aside0.mk (hbox); have n5_ := Aside0.mk ((by rw [hg]; exact (keep_size (w := w) (g := g) (row := none) (by repeat (first | (with_reducible first | exact HK.out | apply jg | apply jd | apply je | apply jf | refine keep_far ?_ ql1.out _) | exact HK.out))) : w.heap.size ≤ gb195)); have n6_ := Aside0.mk ((Nat.le_trans HW0.out (by rw [hg]; exact (keep_size (w := w) (g := g) (row := none) (by repeat (first | (with_reducible first | exact HK.out | apply jg | apply jd | apply je | apply jf | refine keep_far ?_ ql1.out _) | exact HK.out))) : w.heap.size ≤ gb195) : w0.heap.size ≤ gb195)); have n7_ := Aside0.mk ((by rw [hg]; exact Nat.ne_of_lt (blk_lt (g := ga) (o := .cells #[.int .i64 0, .string (⟨#[]⟩ : ByteArray), .slice none 0 0, .int .i64 0, .int .i64 0, .slice none 0 0] 29 (0, 0)) (by (with_reducible repeat (first | refine ja ?_ _ | refine jb ?_ | refine jc ?_ _)); exact qn1.out)) : ga ≠ gb195)); have n8_ := Aside0.mk ((by rw [hg]; exact Nat.ne_of_gt (blk_lt (g := ga) (o := .cells #[.int .i64 0, .string (⟨#[]⟩ : ByteArray), .slice none 0 0, .int .i64 0, .int .i64 0, .slice none 0 0] 29 (0, 0)) (by (with_reducible repeat (first | refine ja ?_ _ | refine jb ?_ | refine jc ?_ _)); exact qn1.out)) : gb195 ≠ ga)); have n9_ := Aside0.mk ((by rw [hg]; exact Nat.ne_of_lt (IsS51.lt (show IsS51 w0 _ g s0_0 t166 from by repeat (first | (with_reducible first | exact HI0.out | apply jn | apply jo | apply jp | apply jq | refine jr ?_ qp.out _) | exact HI0.out))) : g ≠ gb195)); have n10_ := Aside0.mk ((by rw [hg]; exact Nat.ne_of_gt (IsS51.lt (show IsS51 w0 _ g s0_0 t166 from by repeat (first | (with_reducible first | exact HI0.out | apply jn | apply jo | apply jp | apply jq | refine jr ?_ qp.out _) | exact HI0.out))) : gb195 ≠ g)); clear HI0; clear qn1; clear HK; clear HB; have HI0 := n0_; have qn1 := n1_; have HK := n2_; have HB := n3_; have qt1 := n4_; have qk1 := n5_; have qs1 := n6_; have qj := n7_; have qf := n8_; have qd1 := n9_; have qb1 := n10_; clear n0_ n1_ n2_ n3_ n4_ n5_ n6_ n7_ n8_ n9_ n10_; clear hb hbox hg; have hnb54 := qf.out; have hnc54 := qj.out; have hnb55 := qb1.out; have hnc55 := qd1.out; have hcz56_0 : w53.cell? ⟨gb195, 0, none⟩ = some (.int .i64 0) := (jh qt1.out 0).trans rfl; have hcz56_1 : w53.cell? ⟨gb195, 1, none⟩ = some (.string (⟨#[]⟩ : ByteArray)) := (jh qt1.out 1).trans rfl; have hcz56_2 : w53.cell? ⟨gb195, 2, none⟩ = some (.slice none 0 0) := (jh qt1.out 2).trans rfl; have hcz56_3 : w53.cell? ⟨gb195, 3, none⟩ = some (.int .i64 0) := (jh qt1.out 3).trans rfl; have hcz56_4 : w53.cell? ⟨gb195, 4, none⟩ = some (.int .i64 0) := (jh qt1.out 4).trans rfl; have hcz56_5 : w53.cell? ⟨gb195, 5, none⟩ = some (.slice none 0 0) := (jh qt1.out 5).trans rfl; have hfz56_0 := ji qt1.out 0; have hfz56_1 := ji qt1.out 1; have hfz56_2 := ji qt1.out 2; have hfz56_3 := ji qt1.out 3; have hfz56_4 := ji qt1.out 4; have hfz56_5 := ji qt1.out 5) | ((with_reducible refine gate_callee (f := 24) rfl ?_); refine goesL_ (some 50) rfl rfl Try.func24 (by kernel_rfl) rfl #[.pointer (some ⟨g, 0, none⟩), .int .i64 3] rfl (by (try simp only [List.map_toArray, List.map_cons, List.map_nil]); first | done | rfl | (simp only [List.length_drop, List.length_take]; rfl)) ?_; (with_reducible refine (spec_l1Rd_pick.calls k g s0_0 t166 3 t196 t197 w0 _ ?side1 ?side2 A48.out).mono ?_); (case side1 => repeat (first | (with_reducible first | exact HI0.out | apply jn | apply jo | apply jp | apply jq | refine jr ?_ qp.out _ | refine jr ?_ qd1.out _) | exact HI0.out)); (case side2 => repeat (first | (with_reducible first | exact HB.out | apply js | apply jt | apply ju | refine jj ?_ (jv HI0.out) | refine jj ?_ qm1.out | refine jj ?_ qs1.out) | exact HB.out)); rintro e w57 ⟨rfl, hi, hb, hk⟩; refine ⟨_, rfl, ?_⟩; have n0_ := Aside0.mk (KeepBut.blk hk (g' := ga) (o := .cells #[.int .i64 0, .string (⟨#[]⟩ : ByteArray), .slice none 0 0, .int .i64 0, .int .i64 0, .slice none 0 0] 29 (0, 0)) (by (with_reducible repeat (first | refine ja ?_ _ | refine jb ?_ | refine jc ?_ _)); refine jk ?_ qj.out _; (with_reducible repeat (first | refine ja ?_ _ | refine jb ?_ | refine jc ?_ _)); refine jk ?_ qj.out _; (with_reducible repeat (first | refine ja ?_ _ | refine jb ?_ | refine jc ?_ _)); refine jk ?_ qj.out _; (with_reducible repeat (first | refine ja ?_ _ | refine jb ?_ | refine jc ?_ _)); refine jk ?_ qj.out _; (with_reducible repeat (first | refine ja ?_ _ | refine jb ?_ | refine jc ?_ _)); refine jk ?_ qj.out _; (with_reducible repeat (first | refine ja ?_ _ | refine jb ?_ | refine jc ?_ _)); refine jk ?_ qj.out _; (with_reducible repeat (first | refine ja ?_ _ | refine jb ?_ | refine jc ?_ _)); exact qn1.out) qt.out (by simp)); have n1_ := Aside0.mk (KeepBut.blk hk (g' := gb195) (o := .cells #[.int .i64 2, .string (⟨#[]⟩ : ByteArray), .slice none 0 0, .int .i64 7, .int .i64 0, .slice none 0 0] 29 (0, 0)) (by (with_reducible repeat (first | refine ja ?_ _ | refine jb ?_ | refine jc ?_ _)); refine jm (cs := #[.int .i64 2, .string (⟨#[]⟩ : ByteArray), .slice none 0 0, .int .i64 7, .int .i64 0, .slice none 0 0]) ?_ 5 _ rfl; (with_reducible repeat (first | refine ja ?_ _ | refine jb ?_ | refine jc ?_ _)); refine jm (cs := #[.int .i64 2, .string (⟨#[]⟩ : ByteArray), .slice none 0 0, .int .i64 7, .int .i64 0, .slice none 0 0]) ?_ 4 _ rfl; (with_reducible repeat (first | refine ja ?_ _ | refine jb ?_ | refine jc ?_ _)); refine jm (cs := #[.int .i64 2, .string (⟨#[]⟩ : ByteArray), .slice none 0 0, .int .i64 0, .int .i64 0, .slice none 0 0]) ?_ 3 _ rfl; (with_reducible repeat (first | refine ja ?_ _ | refine jb ?_ | refine jc ?_ _)); refine jm (cs := #[.int .i64 2, .string (⟨#[]⟩ : ByteArray), .slice none 0 0, .int .i64 0, .int .i64 0, .slice none 0 0]) ?_ 2 _ rfl; (with_reducible repeat (first | refine ja ?_ _ | refine jb ?_ | refine jc ?_ _)); refine jm (cs := #[.int .i64 2, .string (⟨#[]⟩ : ByteArray), .slice none 0 0, .int .i64 0, .int .i64 0, .slice none 0 0]) ?_ 1 _ rfl; (with_reducible repeat (first | refine ja ?_ _ | refine jb ?_ | refine jc ?_ _)); refine jm (cs := #[.int .i64 0, .string (⟨#[]⟩ : ByteArray), .slice none 0 0, .int .i64 0, .int .i64 0, .slice none 0 0]) ?_ 0 _ rfl; (with_reducible repeat (first | refine ja ?_ _ | refine jb ?_ | refine jc ?_ _)); exact qt1.out) qb1.out (by simp)); have n2_ := Aside0.mk (KeepBut.trans (by repeat (first | (with_reducible first | exact HK.out | apply jg | apply jd | apply je | apply jf | refine keep_far ?_ ql1.out _ | refine keep_far ?_ qk1.out _) | exact HK.out)) hk (.inl rfl)); have n3_ := Aside0.mk (hb); have n4_ := Aside0.mk (hi); clear qn1; clear qt1; clear HK; clear HB; clear HI0; have qn1 := n0_; have qt1 := n1_; have HK := n2_; have HB := n3_; have HI0 := n4_; clear n0_ n1_ n2_ n3_ n4_; (try clear hb); (try clear hb2); (try clear hk); (try clear hi)) | ((with_reducible refine gate_callee (f := 24) rfl ?_); refine goesL_ (some 52) rfl rfl Try.func24 (by kernel_rfl) rfl #[.pointer (some ⟨g, 0, none⟩), .int .i64 3] rfl (by (try simp only [List.map_toArray, List.map_cons, List.map_nil]); first | done | rfl | (simp only [List.length_drop, List.length_take]; rfl)) ?_; (with_reducible refine (spec_l1Rd_pick.calls k g s0_0 t197 3 t198 t199 w0 _ ?side1 ?side2 A49.out).mono ?_); (case side1 => repeat (first | (with_reducible first | exact HI0.out | apply jn | apply jo | apply jp | apply jq | refine jr ?_ qp.out _ | refine jr ?_ qd1.out _) | exact HI0.out)); (case side2 => repeat (first | (with_reducible first | exact HB.out | apply js | apply jt | apply ju | refine jj ?_ (jv HI0.out) | refine jj ?_ qm1.out | refine jj ?_ qs1.out) | exact HB.out)); rintro e w58 ⟨rfl, hi, hb, hk⟩; refine ⟨_, rfl, ?_⟩; have n0_ := Aside0.mk (KeepBut.blk hk (g' := ga) (o := .cells #[.int .i64 0, .string (⟨#[]⟩ : ByteArray), .slice none 0 0, .int .i64 0, .int .i64 0, .slice none 0 0] 29 (0, 0)) (by (with_reducible repeat (first | refine ja ?_ _ | refine jb ?_ | refine jc ?_ _)); exact qn1.out) qt.out (by simp)); have n1_ := Aside0.mk (KeepBut.blk hk (g' := gb195) (o := .cells #[.int .i64 2, .string (⟨#[]⟩ : ByteArray), .slice none 0 0, .int .i64 7, .int .i64 0, .slice none 0 0] 29 (0, 0)) (by (with_reducible repeat (first | refine ja ?_ _ | refine jb ?_ | refine jc ?_ _)); exact qt1.out) qb1.out (by simp)); have n2_ := Aside0.mk (KeepBut.trans (by repeat (first | (with_reducible first | exact HK.out | apply jg | apply jd | apply je | apply jf | refine keep_far ?_ ql1.out _ | refine keep_far ?_ qk1.out _) | exact HK.out)) hk (.inl rfl)); have n3_ := Aside0.mk (hb); have n4_ := Aside0.mk (hi); clear qn1; clear qt1; clear HK; clear HB; clear HI0; have qn1 := n0_; have qt1 := n1_; have HK := n2_; have HB := n3_; have HI0 := n4_; clear n0_ n1_ n2_ n3_ n4_; (try clear hb); (try clear hb2); (try clear hk); (try clear hi)) | ((with_reducible refine gate_callee (f := 24) rfl ?_); refine goesL_ (some 54) rfl rfl Try.func24 (by kernel_rfl) rfl #[.pointer (some ⟨g, 0, none⟩), .int .i64 4] rfl (by (try simp only [List.map_toArray, List.map_cons, List.map_nil]); first | done | rfl | (simp only [List.length_drop, List.length_take]; rfl)) ?_; (with_reducible refine (spec_l1Rd_pick.calls k g s0_0 t199 4 t200 t201 w0 _ ?side1 ?side2 A50.out).mono ?_); (case side1 => repeat (first | (with_reducible first | exact HI0.out | apply jn | apply jo | apply jp | apply jq | refine jr ?_ qp.out _ | refine jr ?_ qd1.out _) | exact HI0.out)); (case side2 => repeat (first | (with_reducible first | exact HB.out | apply js | apply jt | apply ju | refine jj ?_ (jv HI0.out) | refine jj ?_ qm1.out | refine jj ?_ qs1.out) | exact HB.out)); rintro e w59 ⟨rfl, hi, hb, hk⟩; refine ⟨_, rfl, ?_⟩; have n0_ := Aside0.mk (KeepBut.blk hk (g' := ga) (o := .cells #[.int .i64 0, .string (⟨#[]⟩ : ByteArray), .slice none 0 0, .int .i64 0, .int .i64 0, .slice none 0 0] 29 (0, 0)) (by (with_reducible repeat (first | refine ja ?_ _ | refine jb ?_ | refine jc ?_ _)); exact qn1.out) qt.out (by simp)); have n1_ := Aside0.mk (KeepBut.blk hk (g' := gb195) (o := .cells #[.int .i64 2, .string (⟨#[]⟩ : ByteArray), .slice none 0 0, .int .i64 7, .int .i64 0, .slice none 0 0] 29 (0, 0)) (by (with_reducible repeat (first | refine ja ?_ _ | refine jb ?_ | refine jc ?_ _)); exact qt1.out) qb1.out (by simp)); have n2_ := Aside0.mk (KeepBut.trans (by repeat (first | (with_reducible first | exact HK.out | apply jg | apply jd | apply je | apply jf | refine keep_far ?_ ql1.out _ | refine keep_far ?_ qk1.out _) | exact HK.out)) hk (.inl rfl)); have n3_ := Aside0.mk (hb); have n4_ := Aside0.mk (hi); clear qn1; clear qt1; clear HK; clear HB; clear HI0; have qn1 := n0_; have qt1 := n1_; have HK := n2_; have HB := n3_; have HI0 := n4_; clear n0_ n1_ n2_ n3_ n4_; (try clear hb); (try clear hb2); (try clear hk); (try clear hi)))
      go_loopg [10] k (fun kq v10 w' => ∃ (x10_1 : Int) (x1001_1 : Int) (qc : List (S29)) (u196005 : Value), v10 = .int .i64 x10_1 ∧ Aside0 (spec_l13Node.l1 kq a1 t196 t198 x10_1 s0_0 x1001_1 2 (⟨#[]⟩ : ByteArray) 7 0 qc = some (r1, r2, r3, r4, r5, r6, r7)) ∧ Aside0 (kq ≤ k) ∧ Aside0 (Kd.R k29 29 w' w.heap.size (fun k_ => k_ ≠ ga ∧ k_ ≠ gb195) u196005 qc) ∧ Aside0 (w'.heap[ga]? = some (.cells #[.int .i64 0, .string (⟨#[]⟩ : ByteArray), (.slice none 0 0), .int .i64 0, .int .i64 0, (.slice none 0 0)] 29 (0, 0))) ∧ Aside0 (w'.heap[gb195]? = some (.cells #[.int .i64 2, .string (⟨#[]⟩ : ByteArray), (.slice none 0 0), .int .i64 7, .int .i64 0, u196005] 29 (0, 0))) ∧ Aside0 (IsS51 w0 w' g s0_0 x1001_1) ∧ Aside0 (KeepBut w w' g none) ∧ Aside0 (Below w0.heap.size w0 w'))
      case atStart => exact ⟨(t200), (t201), (([] : List (S29))), (.slice none 0 0), (by first | rfl | (simp; done) | (simp [*]; done)), H', ⟨Nat.le_refl _⟩, ⟨by first | exact Kd.R_nil _ _ _ _ _ | exact Kd.N_nil _ _ _ _ _ | exact Kd.V_nil _ _ _ _ _ | exact Kd.Q_nil _ _ _ _ _ | exact Kd.S_nil _ _ _ _ _⟩, ⟨by (with_reducible repeat (first | refine ja ?_ _ | refine jb ?_ | refine jc ?_ _)); exact qn1.out⟩, ⟨by (with_reducible repeat (first | refine ja ?_ _ | refine jb ?_ | refine jc ?_ _)); exact qt1.out⟩, ⟨by repeat (first | (with_reducible first | exact HI0.out | apply jn | apply jo | apply jp | apply jq | refine jr ?_ qp.out _ | refine jr ?_ qd1.out _) | exact HI0.out)⟩, ⟨by repeat (first | (with_reducible first | exact HK.out | apply jg | apply jd | apply je | apply jf | refine keep_far ?_ ql1.out _ | refine keep_far ?_ qk1.out _) | exact HK.out)⟩, ⟨by repeat (first | (with_reducible first | exact HB.out | apply js | apply jt | apply ju | refine jj ?_ (jv HI0.out) | refine jj ?_ qm1.out | refine jj ?_ qs1.out) | exact HB.out)⟩⟩
      case round =>
       clear H'
       try clear c1
       try clear c2
       try clear p2
       try clear c3
       try clear c3b0
       try clear c4
       try clear c5
       try clear p6
       try clear c8
       try clear c8b0
       try clear c8b1
       try clear c11
       try clear c13
       try clear c13b0
       try clear c13b1
       try clear c18
       try clear c22
       try clear c22b0
       try clear c22b1
       try clear c24
       try clear c27
       try clear c28
       try clear c30
       try clear c31
       try clear c31b0
       try clear c33
       try clear c36
       try clear c41
       try clear c42
       try clear c45
       try clear c47
       try clear c47b0
       try clear c47b1
       try clear c54
       try clear c55
       try clear hcz12_0
       try clear hcz12_1
       try clear hcz12_2
       try clear hcz12_3
       try clear hcz12_4
       try clear hcz12_5
       try clear hcz19_0
       try clear hcz19_1
       try clear hcz19_2
       try clear hcz19_3
       try clear hcz19_4
       try clear hcz19_5
       try clear hcz29_0
       try clear hcz29_1
       try clear hcz29_2
       try clear hcz29_3
       try clear hcz29_4
       try clear hcz29_5
       try clear hcz43_0
       try clear hcz43_1
       try clear hcz43_2
       try clear hcz43_3
       try clear hcz43_4
       try clear hcz43_5
       try clear hcz46_0
       try clear hcz46_1
       try clear hcz46_2
       try clear hcz46_3
       try clear hcz46_4
       try clear hcz46_5
       try clear hcz56_0
       try clear hcz56_1
       try clear hcz56_2
       try clear hcz56_3
       try clear hcz56_4
       try clear hcz56_5
       try clear hcz6_0
       try clear hcz6_1
       try clear hcz6_2
       try clear hcz6_3
       try clear hcz6_4
       try clear hcz6_5
       try clear hfz12_0
       try clear hfz12_1
       try clear hfz12_2
       try clear hfz12_3
       try clear hfz12_4
       try clear hfz12_5
       try clear hfz19_0
       try clear hfz19_1
       try clear hfz19_2
       try clear hfz19_3
       try clear hfz19_4
       try clear hfz19_5
       try clear hfz29_0
       try clear hfz29_1
       try clear hfz29_2
       try clear hfz29_3
       try clear hfz29_4
       try clear hfz29_5
       try clear hfz43_0
       try clear hfz43_1
       try clear hfz43_2
       try clear hfz43_3
       try clear hfz43_4
       try clear hfz43_5
       try clear hfz46_0
       try clear hfz46_1
       try clear hfz46_2
       try clear hfz46_3
       try clear hfz46_4
       try clear hfz46_5
       try clear hfz56_0
       try clear hfz56_1
       try clear hfz56_2
       try clear hfz56_3
       try clear hfz56_4
       try clear hfz56_5
       try clear hfz6_0
       try clear hfz6_1
       try clear hfz6_2
       try clear hfz6_3
       try clear hfz6_4
       try clear hfz6_5
       try clear p2
       obtain ⟨x10_1, x1001_1, qc, u196005, rfl, HA, HK1, qh, qn1, qt1, HI0, HK, HB⟩ := hrel
       cases gk with
       | zero => exact absurd HA.out (by simp [spec_l13Node.l1])
       | succ k1 =>
        have H := HA.out
        clear HA
        simp only [spec_l13Node.l1] at H
        by_cases c60 : x10_1 > 0
        ·rw [if_pos c60] at H
         have c60b0 : decide (0 < x10_1) = true := decide_eq_true c60
         clear c60
         replace H := Option.bind_eq_some_iff.mp H
         obtain ⟨⟨t202, t203, t204, t207, t208, t209, t212⟩, A610, H⟩ := H
         replace H : (if qc.length < 1599289640401 then (spec_l13Node.l1 k1 a1 t196 t198 (wrap64 (x10_1 - 1)) s0_0 t212 2 (⟨#[]⟩ : ByteArray) 7 0 (qc ++ [(⟨t202, t203, t204, t207, t208, t209⟩ : S29)])) else (none)) = some (r1, r2, r3, r4, r5, r6, r7) := H
         have A61 := Aside0.mk A610
         clear A610
         by_cases c62 : qc.length < 1599289640401
         ·rw [if_pos c62] at H
          have LMc62 := Aside0.mk c62
          clear c62
          obtain ⟨y213, hy213⟩ : ∃ y_ : List (S29), y_ = (qc ++ [(⟨t202, t203, t204, t207, t208, t209⟩ : S29)]) := ⟨_, rfl⟩
          replace H : (spec_l13Node.l1 k1 a1 t196 t198 (wrap64 (x10_1 - 1)) s0_0 t212 2 (⟨#[]⟩ : ByteArray) 7 0 y213) = some (r1, r2, r3, r4, r5, r6, r7) := by first | (rw [hy213]; with_reducible exact H) | (have H2_ := (Option.bind_some _ _).symm.trans H; rw [hy213]; with_reducible exact H2_) | (have H2_ := (Option.bind_some _ _).symm.trans H; with_reducible exact H2_) | with_reducible exact H | (rw [hy213]; exact H) | exact H
          have Ny213 := Aside0.mk hy213
          clear hy213
          have H' := Aside0.mk H
          clear H
          try go_wp2
          have n0_ := Aside0.mk (Kd.R_drew qh.out)
          have n1_ := Aside0.mk (jb qn1.out)
          have n2_ := Aside0.mk (jb qt1.out)
          have n3_ := Aside0.mk (jp HI0.out)
          have n4_ := Aside0.mk (je HK.out)
          have n5_ := Aside0.mk (ju HB.out)
          clear qh
          clear qn1
          clear qt1
          clear HI0
          clear HK
          clear HB
          have qh := n0_
          have qn1 := n1_
          have qt1 := n2_
          have HI0 := n3_
          have HK := n4_
          have HB := n5_
          clear n0_ n1_ n2_ n3_ n4_ n5_
          refine start_ (n := 11) (S := fun w' => w'.cell? ⟨gb195, 0, none⟩ = some (.int .i64 2) ∧ w'.cell? ⟨gb195, 1, none⟩ = some (.string (⟨#[]⟩ : ByteArray)) ∧ w'.cell? ⟨gb195, 2, none⟩ = some (.slice none 0 0) ∧ w'.cell? ⟨gb195, 3, none⟩ = some (.int .i64 7) ∧ w'.cell? ⟨gb195, 4, none⟩ = some (.int .i64 0) ∧ w'.cell? ⟨gb195, 5, none⟩ = some (u196005)) (ds := [10]) #[false, false, false, false, false, false, false, false, false, false, false] (by kernel_rfl) rfl rfl ⟨(jh qt1.out 0).trans rfl, (jh qt1.out 1).trans rfl, (jh qt1.out 2).trans rfl, (jh qt1.out 3).trans rfl, (jh qt1.out 4).trans rfl, (jh qt1.out 5).trans rfl⟩ (fun hHeld => ?_); refine with_tabW spec_l13Node.tab23 spec_l13Node.bits23 (fun HT_ HW_ => ?_)
          generalize wr.drew = w63 at qh qn1 qt1 HI0 HK HB hHeld ⊢
          refine pure_ (i := 0) (N := some 59) (v := ?_) (a' := ?_) #[true, false, false, false, false, false, false, false, false, false, false] rfl rfl (any_of HT_.out (by kernel_rfl)) (fun _ _ _ h => h) (Or.inl ⟨by rfl, ?_⟩) ?_ ?_
          rotate_left
          ·intro w'
           go_simp
           with_reducible rfl
          rotate_left
          ·simp only [Act.put, List.setIfInBounds_toArray, List.set_cons_zero, List.set_cons_succ, i64_w, i32_w]
           rfl
          refine pure_ (i := 2) (N := some 61) (v := ?_) (a' := ?_) #[true, false, true, false, false, false, false, false, false, false, false] rfl rfl (any_of HT_.out (by kernel_rfl)) (fun _ _ _ h => h) (Or.inl ⟨by rfl, ?_⟩) ?_ ?_
          rotate_left
          ·intro w'
           go_simp
           with_reducible rfl
          rotate_left
          ·simp only [Act.put, List.setIfInBounds_toArray, List.set_cons_zero, List.set_cons_succ, i64_w, i32_w]
           rfl
          refine pure_ (i := 3) (N := some 62) (v := ?_) (a' := ?_) #[true, false, true, true, false, false, false, false, false, false, false] rfl rfl (any_of HT_.out (by kernel_rfl)) (fun _ _ _ h => h) (Or.inl ⟨by rfl, ?_⟩) ?_ ?_
          rotate_left
          ·intro w'
           go_simp
           with_reducible rfl
          rotate_left
          ·simp only [Act.put, List.setIfInBounds_toArray, List.set_cons_zero, List.set_cons_succ, i64_w, i32_w]
           rfl
          refine pure_ (i := 4) (N := some 63) (v := ?_) (a' := ?_) #[true, false, true, true, true, false, false, false, false, false, false] rfl rfl (any_of HT_.out (by kernel_rfl)) (fun _ _ _ h => h) (Or.inl ⟨by rfl, ?_⟩) ?_ ?_
          rotate_left
          ·intro w'
           go_simp
           with_reducible rfl
          rotate_left
          ·simp only [Act.put, List.setIfInBounds_toArray, List.set_cons_zero, List.set_cons_succ, i64_w, i32_w]
           rfl
          refine pure_ (i := 5) (N := some 64) (v := ?_) (a' := ?_) #[true, false, true, true, true, true, false, false, false, false, false] rfl rfl (any_of HT_.out (by kernel_rfl)) (fun _ _ _ h => h) (Or.inl ⟨by rfl, ?_⟩) ?_ ?_
          rotate_left
          ·intro w'
           go_simp
           with_reducible rfl
          rotate_left
          ·simp only [Act.put, List.setIfInBounds_toArray, List.set_cons_zero, List.set_cons_succ, i64_w, i32_w]
           rfl
          refine take_ (i := 1) (N := some 60) (v := ?_) (a' := ?_) #[true, true, true, true, true, true, false, false, false, false, false] rfl rfl (take_ofW HT_.out HW_.out (by kernel_rfl)) (fun _ _ _ h => h) (Or.inl ⟨by rfl, ?_⟩) hHeld ?_ ?_
          rotate_left
          ·rintro w' ⟨s0, s1, s2, s3, s4, s5⟩
           go_simp
           with_reducible rfl
          rotate_left
          ·simp only [Act.put, List.setIfInBounds_toArray, List.set_cons_zero, List.set_cons_succ, i64_w, i32_w]
           rfl
          refine one_ (i := 6) (N := some 65) #[true, true, true, true, true, true, true, false, false, false, false] rfl rfl (one_of HT_.out (by kernel_rfl)) (by decide) (fun K hK => ?_)
          refine goes_ Try.func37 (by kernel_rfl) rfl #[.pointer (some ⟨g, 0, none⟩), .int .i64 t196, .int .i64 t198, .int .i64 a1] (by rfl) rfl rfl (by (try simp only [List.map_toArray, List.map_cons, List.map_nil]); first | done | rfl | (simp only [List.length_drop, List.length_take]; rfl)) ?_
          with_reducible refine (spec_l13Struct.callsK k1 (fun m hm => ih m (by have := HK1.out; omega)) g s0_0 x1001_1 t196 t198 a1 t202 t203 t204 t207 t208 t209 t212 w0 _ ?side1 ?side2 (by first | exact A61.out | (unfold spec_l13Struct.f; exact A61.out))).mono ?_
          (case side1 => repeat (first | (with_reducible first | exact HI0.out | apply jn | apply jo | apply jp | apply jq | refine jr ?_ qp.out _ | refine jr ?_ qd1.out _) | exact HI0.out))
          (case side2 => repeat (first | (with_reducible first | exact HB.out | apply js | apply jt | apply ju | refine jj ?_ (jv HI0.out) | refine jj ?_ qm1.out | refine jj ?_ qs1.out) | exact HB.out))
          rintro e w64 ⟨v205, v210, rfl, ho0, ho1, hi, hb, hk⟩
          refine ⟨_, rfl, ?_⟩
          have n0_ := Aside0.mk (Kd.R_mono (Kd.R_told (Kd.R_told (Kd.R_oldK (IsS51.apart (show IsS51 w0 _ g s0_0 x1001_1 from by repeat (first | (with_reducible first | exact HI0.out | apply jn | apply jo | apply jp | apply jq | refine jr ?_ qp.out _ | refine jr ?_ qd1.out _) | exact HI0.out)) (by (with_reducible repeat (first | apply Kd.R_alloc | apply Kd.R_drewN | apply Kd.R_drew)); exact qh.out) (by decide)) hk) (Kd.R_base ho0)) (Kd.R_base ho1)) (fun _ h_ => h_.1))
          have n1_ := Aside0.mk (KeepBut.blk hk (g' := ga) (o := .cells #[.int .i64 0, .string (⟨#[]⟩ : ByteArray), .slice none 0 0, .int .i64 0, .int .i64 0, .slice none 0 0] 29 (0, 0)) (by (with_reducible repeat (first | refine ja ?_ _ | refine jb ?_ | refine jc ?_ _)); exact qn1.out) qt.out (by simp))
          have n2_ := Aside0.mk (KeepBut.blk hk (g' := gb195) (o := .cells #[.int .i64 2, .string (⟨#[]⟩ : ByteArray), .slice none 0 0, .int .i64 7, .int .i64 0, u196005] 29 (0, 0)) (by (with_reducible repeat (first | refine ja ?_ _ | refine jb ?_ | refine jc ?_ _)); exact qt1.out) qb1.out (by simp))
          have n3_ := Aside0.mk (Kd.R_lower (Kd.R_newB (Kd.R_newB (Kd.R_new' ho0 (Kd.R_lt (by (with_reducible repeat (first | apply Kd.R_alloc | apply Kd.R_drewN | apply Kd.R_drew)); exact qh.out))) (g := ga) (o := .cells #[.int .i64 0, .string (⟨#[]⟩ : ByteArray), .slice none 0 0, .int .i64 0, .int .i64 0, .slice none 0 0] 29 (0, 0)) (by (with_reducible repeat (first | refine ja ?_ _ | refine jb ?_ | refine jc ?_ _)); exact qn1.out)) (g := gb195) (o := .cells #[.int .i64 2, .string (⟨#[]⟩ : ByteArray), .slice none 0 0, .int .i64 7, .int .i64 0, u196005] 29 (0, 0)) (by (with_reducible repeat (first | refine ja ?_ _ | refine jb ?_ | refine jc ?_ _)); exact qt1.out)) (keep_size (w := w) (g := g) (row := none) (by repeat (first | (with_reducible first | exact HK.out | apply jg | apply jd | apply je | apply jf | refine keep_far ?_ ql1.out _ | refine keep_far ?_ qk1.out _) | exact HK.out))))
          have n4_ := Aside0.mk (Kd.R_lower (Kd.R_newB (Kd.R_newB (Kd.R_new' ho1 (Kd.R_lt (by (with_reducible repeat (first | apply Kd.R_alloc | apply Kd.R_drewN | apply Kd.R_drew)); exact qh.out))) (g := ga) (o := .cells #[.int .i64 0, .string (⟨#[]⟩ : ByteArray), .slice none 0 0, .int .i64 0, .int .i64 0, .slice none 0 0] 29 (0, 0)) (by (with_reducible repeat (first | refine ja ?_ _ | refine jb ?_ | refine jc ?_ _)); exact qn1.out)) (g := gb195) (o := .cells #[.int .i64 2, .string (⟨#[]⟩ : ByteArray), .slice none 0 0, .int .i64 7, .int .i64 0, u196005] 29 (0, 0)) (by (with_reducible repeat (first | refine ja ?_ _ | refine jb ?_ | refine jc ?_ _)); exact qt1.out)) (keep_size (w := w) (g := g) (row := none) (by repeat (first | (with_reducible first | exact HK.out | apply jg | apply jd | apply je | apply jf | refine keep_far ?_ ql1.out _ | refine keep_far ?_ qk1.out _) | exact HK.out))))
          have n5_ := Aside0.mk (KeepBut.trans (by repeat (first | (with_reducible first | exact HK.out | apply jg | apply jd | apply je | apply jf | refine keep_far ?_ ql1.out _ | refine keep_far ?_ qk1.out _) | exact HK.out)) hk (.inl rfl))
          have n6_ := Aside0.mk (hb)
          have n7_ := Aside0.mk (hi)
          clear qh
          clear qn1
          clear qt1
          clear HK
          clear HB
          clear HI0
          have qh := n0_
          have qn1 := n1_
          have qt1 := n2_
          have HO206 := n3_
          have HO211 := n4_
          have HK := n5_
          have HB := n6_
          have HI0 := n7_
          clear n0_ n1_ n2_ n3_ n4_ n5_ n6_ n7_
          (try clear hb)
          (try clear hb2)
          (try clear hk)
          (try clear hi)
          (try clear ho0)
          (try clear ho1)
          obtain ⟨Ao66, co66, eo66⟩ := Kd.R_slice HO206.out
          (first | subst eo66 | (injection eo66 with f1_ f2_ f3_; have f4_ := f1_.symm; have f5_ := f3_.symm; clear f1_ f2_ f3_; subst f4_; subst f5_))
          obtain ⟨Ao67, co67, eo67⟩ := Kd.R_slice HO211.out
          (first | subst eo67 | (injection eo67 with f1_ f2_ f3_; have f4_ := f1_.symm; have f5_ := f3_.symm; clear f1_ f2_ f3_; subst f4_; subst f5_))
          refine hK.out _ _ ⟨(jh qt1.out 0).trans rfl, (jh qt1.out 1).trans rfl, (jh qt1.out 2).trans rfl, (jh qt1.out 3).trans rfl, (jh qt1.out 4).trans rfl, (jh qt1.out 5).trans rfl⟩ (fun hHeld => ?_)
          clear hK K
          refine norm_ (a' := ?_) ?_ ?_
          rotate_left
          ·show Act.put _ (some 65) _ = _
           simp only [Act.put, List.setIfInBounds_toArray, List.set_cons_zero, List.set_cons_succ, i64_w, i32_w]
           rfl
          refine one_ (i := 7) (N := some 66) #[true, true, true, true, true, true, true, true, false, false, false] rfl rfl (one_of HT_.out (by kernel_rfl)) (by decide) (fun K hK => ?_)
          refine value_ (w1 := ?_) (v := ?_) (by rfl) rfl ?_ ?_
          rotate_left 2
          ·go_simp
           constructor
           ·rfl
           ·rfl
          refine hK.out _ _ ⟨(jh (jc qt1.out _) 0).trans rfl, (jh (jc qt1.out _) 1).trans rfl, (jh (jc qt1.out _) 2).trans rfl, (jh (jc qt1.out _) 3).trans rfl, (jh (jc qt1.out _) 4).trans rfl, (jh (jc qt1.out _) 5).trans rfl⟩ (fun hHeld => ?_)
          clear hK K
          refine norm_ (a' := ?_) ?_ ?_
          rotate_left
          ·show Act.put _ (some 66) _ = _
           simp only [Act.put, List.setIfInBounds_toArray, List.set_cons_zero, List.set_cons_succ, i64_w, i32_w]
           rfl
          refine one_ (i := 8) (N := some 67) #[true, true, true, true, true, true, true, true, true, false, false] rfl rfl (one_of HT_.out (by kernel_rfl)) (by decide) (fun K hK => ?_)
          refine Kd.R_append_step k29 w.heap.size (by rfl) (.tmp 60) (.tmp 66) 27 29 (.agg #[(.int .i64 0), (.string ⟨#[]⟩), (.slice none 0 0), (.int .i64 0), (.int .i64 0), (.slice none 0 0)]) 88 rfl Try.underlying27 info29 rfl (by decide) (by omega) u196005 qc (⟨t202, t203, t204, t207, t208, t209⟩ : S29) [.int .i64 t202, .string t203, .slice Ao66 t204.length co66, .int .i64 t207, .int .i64 t208, .slice Ao67 t209.length co67] (fun k_ => k_ ≠ ga ∧ k_ ≠ gb195) (fun k_ => ((fun k_ => k_ ≠ ga ∧ k_ ≠ gb195)) k_ ∧ some k_ ≠ (u196005 : Value).ownBlock) rfl rfl ?aP (fun _ hk => hk) ?aF ?aO (Below.refl _ _) ?aS ?aL ?_
          (case aP => exact k29_mkM _ _ _ (⟨t202, t203, t204, t207, t208, t209⟩ : S29) (Kd.R_mono (HO206.out) (fun k_ hk => ⟨⟨hk.1.2, hk.2⟩, hk.1.1.2⟩)) (Kd.R_mono (HO211.out) (fun k_ hk => ⟨⟨hk.1.2, hk.2⟩, hk.1.1.2⟩)))
          (case aF => exact (fun k_ hk => ⟨Kd.freshB (g := ga) (o := .cells #[.int .i64 0, .string (⟨#[]⟩ : ByteArray), .slice none 0 0, .int .i64 0, .int .i64 0, .slice none 0 0] 29 (0, 0)) (by (with_reducible repeat (first | refine ja ?_ _ | refine jb ?_ | refine jc ?_ _)); exact qn1.out) k_ hk, Kd.freshB (g := gb195) (o := .cells #[.int .i64 2, .string (⟨#[]⟩ : ByteArray), .slice none 0 0, .int .i64 7, .int .i64 0, u196005] 29 (0, 0)) (by (with_reducible repeat (first | refine ja ?_ _ | refine jb ?_ | refine jc ?_ _)); exact qt1.out) k_ hk⟩))
          (case aO => exact (by (with_reducible repeat (first | apply Kd.R_alloc | apply Kd.R_drewN | apply Kd.R_drew)); exact Kd.R_mono qh.out (fun _ hk => ⟨hk.1.1.1, hk.1.1.2⟩)))
          (case aS => exact (keep_size (w := w) (g := g) (row := none) (by repeat (first | (with_reducible first | exact HK.out | apply jg | apply jd | apply je | apply jf | refine keep_far ?_ ql1.out _ | refine keep_far ?_ qk1.out _) | exact HK.out))))
          (case aL => have := LMc62.out; omega)
          intro v214 w65 ho hb hg hat
          rw [← Ny213.out] at ho
          have n0_ := Aside0.mk (blk_grown (g := ga) (o := .cells #[.int .i64 0, .string (⟨#[]⟩ : ByteArray), .slice none 0 0, .int .i64 0, .int .i64 0, .slice none 0 0] 29 (0, 0)) (by (with_reducible repeat (first | refine ja ?_ _ | refine jb ?_ | refine jc ?_ _)); exact qn1.out) hg (Kd.R_away qh.out (fun _ hk => hk.1.1.1)))
          have n1_ := Aside0.mk (blk_grown (g := gb195) (o := .cells #[.int .i64 2, .string (⟨#[]⟩ : ByteArray), .slice none 0 0, .int .i64 7, .int .i64 0, u196005] 29 (0, 0)) (by (with_reducible repeat (first | refine ja ?_ _ | refine jb ?_ | refine jc ?_ _)); exact qt1.out) hg (Kd.R_away qh.out (fun _ hk => hk.1.1.2)))
          have n2_ := Aside0.mk (IsS51.grown (by repeat (first | (with_reducible first | exact HI0.out | apply jn | apply jo | apply jp | apply jq | refine jr ?_ qp.out _ | refine jr ?_ qd1.out _) | exact HI0.out)) hg (IsS51.own_ne HI0.out qh.out (by decide)))
          have n3_ := Aside0.mk (below_weaken (by repeat (first | (with_reducible first | exact HB.out | apply js | apply jt | apply ju | refine jj ?_ (jv HI0.out) | refine jj ?_ qm1.out | refine jj ?_ qs1.out) | exact HB.out)) HL.out hb)
          have n4_ := Aside0.mk (KeepBut.trans (by repeat (first | (with_reducible first | exact HK.out | apply jg | apply jd | apply je | apply jf | refine keep_far ?_ ql1.out _ | refine keep_far ?_ qk1.out _) | exact HK.out)) (KeepBut.of_grown hg g) (Kd.R_base2 qh.out))
          have n5_ := Aside0.mk (ho)
          clear qn1
          clear qt1
          clear HI0
          clear HB
          clear HK
          clear qh
          clear HO206
          clear HO211
          have qn1 := n0_
          have qt1 := n1_
          have HI0 := n2_
          have HB := n3_
          have HK := n4_
          have HO215 := n5_
          clear n0_ n1_ n2_ n3_ n4_ n5_
          clear ho hb hg hat
          obtain ⟨Ao68, co68, eo68⟩ := Kd.R_slice HO215.out
          (first | subst eo68 | (injection eo68 with f1_ f2_ f3_; have f4_ := f1_.symm; have f5_ := f3_.symm; clear f1_ f2_ f3_; subst f4_; subst f5_))
          refine hK.out _ _ ⟨(jh qt1.out 0).trans rfl, (jh qt1.out 1).trans rfl, (jh qt1.out 2).trans rfl, (jh qt1.out 3).trans rfl, (jh qt1.out 4).trans rfl, (jh qt1.out 5).trans rfl⟩ (fun hHeld => ?_)
          clear hK K
          refine norm_ (a' := ?_) ?_ ?_
          rotate_left
          ·show Act.put _ (some 67) _ = _
           simp only [Act.put, List.setIfInBounds_toArray, List.set_cons_zero, List.set_cons_succ, i64_w, i32_w]
           rfl
          refine pure_ (i := 9) (N := some 68) (v := ?_) (a' := ?_) #[true, true, true, true, true, true, true, true, true, true, false] rfl rfl (any_of HT_.out (by kernel_rfl)) (fun _ _ _ h => h) (Or.inl ⟨by rfl, ?_⟩) ?_ ?_
          rotate_left
          ·intro w'
           go_simp
           with_reducible rfl
          rotate_left
          ·simp only [Act.put, List.setIfInBounds_toArray, List.set_cons_zero, List.set_cons_succ, i64_w, i32_w]
           rfl
          refine last_ (i := 10) (N := none) #[true, true, true, true, true, true, true, true, true, true, true] rfl rfl (one_of HT_.out (by kernel_rfl)) (by decide) (fun K hK => ?_)
          have hs69 : w65.cell? ⟨gb195, 5, none⟩ = some (u196005) := (jh qt1.out 5).trans rfl
          have hfs69 := ji qt1.out 5
          have hns69_0 := qj.out
          have hms69_0 := qf.out
          refine skip_ (w1 := ?_) (by rfl) rfl ?_ ?_
          rotate_left
          ·go_simp
           rfl
          refine hK.out _ _ ?_
          clear hK K
          refine done_ (done_of HT_.out (by kernel_rfl)) ?_
          try go_wp2
          go_roundg k1
          case measure => have := HK1.out; omega
          case rel => exact ⟨(wrap64 (x10_1 - 1)), (t212), (y213), (.slice Ao68 y213.length co68), (by first | rfl | (simp; done) | (simp [*]; done)), H', ⟨by have := HK1.out; omega⟩, ⟨by (with_reducible repeat (first | apply Kd.R_alloc | apply Kd.R_drewN | apply Kd.R_drew)); exact Kd.R_mono (Kd.R_far (p := ⟨gb195, 5, none⟩) (Kd.R_mono HO215.out (fun k_ hk => (⟨hk, hk.2⟩ : _ ∧ k_ ≠ gb195))) (fun _ hk => hk.2) (.slice Ao68 y213.length co68)) (fun _ hk => ⟨hk.1.1, hk.1.2⟩)⟩, ⟨by (with_reducible repeat (first | refine ja ?_ _ | refine jb ?_ | refine jc ?_ _)); refine jk ?_ qj.out _; (with_reducible repeat (first | refine ja ?_ _ | refine jb ?_ | refine jc ?_ _)); exact qn1.out⟩, ⟨by (with_reducible repeat (first | refine ja ?_ _ | refine jb ?_ | refine jc ?_ _)); refine jm (cs := #[.int .i64 2, .string (⟨#[]⟩ : ByteArray), .slice none 0 0, .int .i64 7, .int .i64 0, u196005]) ?_ 5 _ rfl; (with_reducible repeat (first | refine ja ?_ _ | refine jb ?_ | refine jc ?_ _)); exact qt1.out⟩, ⟨by repeat (first | (with_reducible first | exact HI0.out | apply jn | apply jo | apply jp | apply jq | refine jr ?_ qp.out _ | refine jr ?_ qd1.out _) | exact HI0.out)⟩, ⟨by repeat (first | (with_reducible first | exact HK.out | apply jg | apply jd | apply je | apply jf | refine keep_far ?_ ql1.out _ | refine keep_far ?_ qk1.out _) | exact HK.out)⟩, ⟨by repeat (first | (with_reducible first | exact HB.out | apply js | apply jt | apply ju | refine jj ?_ (jv HI0.out) | refine jj ?_ qm1.out | refine jj ?_ qs1.out) | exact HB.out)⟩⟩
         ·rw [if_neg c62] at H
          exact absurd H (by simp)
        ·rw [if_neg c60] at H
         have c60b0 : decide (0 < x10_1) = false := decide_eq_false c60
         clear c60
         simp only [Option.some.injEq, Prod.mk.injEq] at H
         obtain ⟨rfl, rfl, rfl, rfl, rfl, rfl, rfl⟩ := H
         have hnb70 := qf.out
         have hnc70 := qj.out
         have hnb71 := qb1.out
         have hnc71 := qd1.out
         have hcz72_0 : wr.cell? ⟨gb195, 0, none⟩ = some (.int .i64 2) := (jh qt1.out 0).trans rfl
         have hcz72_1 : wr.cell? ⟨gb195, 1, none⟩ = some (.string (⟨#[]⟩ : ByteArray)) := (jh qt1.out 1).trans rfl
         have hcz72_2 : wr.cell? ⟨gb195, 2, none⟩ = some (.slice none 0 0) := (jh qt1.out 2).trans rfl
         have hcz72_3 : wr.cell? ⟨gb195, 3, none⟩ = some (.int .i64 7) := (jh qt1.out 3).trans rfl
         have hcz72_4 : wr.cell? ⟨gb195, 4, none⟩ = some (.int .i64 0) := (jh qt1.out 4).trans rfl
         have hcz72_5 : wr.cell? ⟨gb195, 5, none⟩ = some (u196005) := (jh qt1.out 5).trans rfl
         have hfz72_0 := ji qt1.out 0
         have hfz72_1 := ji qt1.out 1
         have hfz72_2 := ji qt1.out 2
         have hfz72_3 := ji qt1.out 3
         have hfz72_4 := ji qt1.out 4
         have hfz72_5 := ji qt1.out 5
         obtain ⟨Ao73, co73, eo73⟩ := Kd.R_slice qh.out
         subst eo73
         have hnb74 := qt.out
         have hnc74 := qp.out
         have hcz75_0 : wr.cell? ⟨ga, 0, none⟩ = some (.int .i64 0) := (jh qn1.out 0).trans rfl
         have hcz75_1 : wr.cell? ⟨ga, 1, none⟩ = some (.string (⟨#[]⟩ : ByteArray)) := (jh qn1.out 1).trans rfl
         have hcz75_2 : wr.cell? ⟨ga, 2, none⟩ = some (.slice none 0 0) := (jh qn1.out 2).trans rfl
         have hcz75_3 : wr.cell? ⟨ga, 3, none⟩ = some (.int .i64 0) := (jh qn1.out 3).trans rfl
         have hcz75_4 : wr.cell? ⟨ga, 4, none⟩ = some (.int .i64 0) := (jh qn1.out 4).trans rfl
         have hcz75_5 : wr.cell? ⟨ga, 5, none⟩ = some (.slice none 0 0) := (jh qn1.out 5).trans rfl
         have hfz75_0 := ji qn1.out 0
         have hfz75_1 := ji qn1.out 1
         have hfz75_2 := ji qn1.out 2
         have hfz75_3 := ji qn1.out 3
         have hfz75_4 := ji qn1.out 4
         have hfz75_5 := ji qn1.out 5
         go_wp2
         refine bodyPost_ret (results_cell_row rfl _ _ ga 29 #[.int .i64 2, .string (⟨#[]⟩ : ByteArray), .slice none 0 0, .int .i64 7, .int .i64 (qc.length : Int), .slice Ao73 qc.length co73] (0, 0) _ rfl (by (with_reducible repeat (first | refine ja ?_ _ | refine jb ?_ | refine jc ?_ _)); refine jm (cs := #[.int .i64 2, .string (⟨#[]⟩ : ByteArray), .slice none 0 0, .int .i64 7, .int .i64 (qc.length : Int), .slice none 0 0]) ?_ 5 _ rfl; (with_reducible repeat (first | refine ja ?_ _ | refine jb ?_ | refine jc ?_ _)); refine jm (cs := #[.int .i64 2, .string (⟨#[]⟩ : ByteArray), .slice none 0 0, .int .i64 7, .int .i64 0, .slice none 0 0]) ?_ 4 _ rfl; (with_reducible repeat (first | refine ja ?_ _ | refine jb ?_ | refine jc ?_ _)); refine jm (cs := #[.int .i64 2, .string (⟨#[]⟩ : ByteArray), .slice none 0 0, .int .i64 0, .int .i64 0, .slice none 0 0]) ?_ 3 _ rfl; (with_reducible repeat (first | refine ja ?_ _ | refine jb ?_ | refine jc ?_ _)); refine jm (cs := #[.int .i64 2, .string (⟨#[]⟩ : ByteArray), .slice none 0 0, .int .i64 0, .int .i64 0, .slice none 0 0]) ?_ 2 _ rfl; (with_reducible repeat (first | refine ja ?_ _ | refine jb ?_ | refine jc ?_ _)); refine jm (cs := #[.int .i64 2, .string (⟨#[]⟩ : ByteArray), .slice none 0 0, .int .i64 0, .int .i64 0, .slice none 0 0]) ?_ 1 _ rfl; (with_reducible repeat (first | refine ja ?_ _ | refine jb ?_ | refine jc ?_ _)); refine jm (cs := #[.int .i64 0, .string (⟨#[]⟩ : ByteArray), .slice none 0 0, .int .i64 0, .int .i64 0, .slice none 0 0]) ?_ 0 _ rfl; (with_reducible repeat (first | refine ja ?_ _ | refine jb ?_ | refine jc ?_ _)); refine jk ?_ qj.out _; (with_reducible repeat (first | refine ja ?_ _ | refine jb ?_ | refine jc ?_ _)); exact qn1.out) Try.underlying29 rfl (by kernel_rfl)) rfl ?_
         exact ⟨_, _, by first | rfl | (simp [errW_none, errW_some] <;> rfl) | (simp [*, errW_none, errW_some] <;> rfl), by first | exact Kd.R_nil _ _ _ _ _ | exact Kd.N_nil _ _ _ _ _ | exact Kd.V_nil _ _ _ _ _ | exact Kd.Q_nil _ _ _ _ _ | exact Kd.S_nil _ _ _ _ _, by (with_reducible repeat (first | apply Kd.R_alloc | apply Kd.R_drewN | apply Kd.R_drew)); exact Kd.R_mono (Kd.R_far (p := ⟨ga, 5, none⟩) (Kd.R_far (p := ⟨ga, 4, none⟩) (Kd.R_far (p := ⟨ga, 3, none⟩) (Kd.R_far (p := ⟨ga, 2, none⟩) (Kd.R_far (p := ⟨ga, 1, none⟩) (Kd.R_far (p := ⟨ga, 0, none⟩) (Kd.R_far (p := ⟨gb195, 4, none⟩) (Kd.R_mono (Kd.R_mono qh.out (fun k_ hk => (⟨hk, hk.2⟩ : _ ∧ k_ ≠ gb195))) (fun k_ hk => (⟨hk, hk.1.1⟩ : _ ∧ k_ ≠ ga))) (fun _ hk => hk.1.2) (.int .i64 (qc.length : Int))) (fun _ hk => hk.2) (.int .i64 2)) (fun _ hk => hk.2) (.string (⟨#[]⟩ : ByteArray))) (fun _ hk => hk.2) (.slice none 0 0)) (fun _ hk => hk.2) (.int .i64 7)) (fun _ hk => hk.2) (.int .i64 (qc.length : Int))) (fun _ hk => hk.2) (.slice Ao73 qc.length co73)) (fun _ hk => (by simp [Value.ownBlock])), by repeat (first | (with_reducible first | exact HI0.out | apply jn | apply jo | apply jp | apply jq | refine jr ?_ qp.out _ | refine jr ?_ qd1.out _) | exact HI0.out), by repeat (first | (with_reducible first | exact HB.out | apply js | apply jt | apply ju | refine jj ?_ (jv HI0.out) | refine jj ?_ qm1.out | refine jj ?_ qs1.out) | exact HB.out), by repeat (first | (with_reducible first | exact HK.out | apply jg | apply jd | apply je | apply jf | refine keep_far ?_ ql1.out _ | refine keep_far ?_ qk1.out _) | exact HK.out)⟩
     ·rw [if_neg c47] at H
      have c47b0 : (t165 == 3) = false := beq_eq_false_iff_ne.mpr c47
      have c47b1 : (t165 != 3) = true := bne_iff_ne.mpr c47
      replace H := Option.bind_eq_some_iff.mp H
      obtain ⟨⟨t216, t217⟩, A760, H⟩ := H
      replace H : ((spec_l1Rd_pick.f k s0_0 t217 4).bind fun bt218 => ((spec_l13Struct.f k s0_0 bt218.2 t216 bt218.1 a1).bind fun bt220 => (some (bt220.1, bt220.2.1, bt220.2.2.1, bt220.2.2.2.1, bt220.2.2.2.2.1, bt220.2.2.2.2.2.1, bt220.2.2.2.2.2.2)))) = some (r1, r2, r3, r4, r5, r6, r7) := H
      have A76 := Aside0.mk A760
      clear A760
      replace H := Option.bind_eq_some_iff.mp H
      obtain ⟨⟨t218, t219⟩, A770, H⟩ := H
      replace H : ((spec_l13Struct.f k s0_0 t219 t216 t218 a1).bind fun bt220 => (some (bt220.1, bt220.2.1, bt220.2.2.1, bt220.2.2.2.1, bt220.2.2.2.2.1, bt220.2.2.2.2.2.1, bt220.2.2.2.2.2.2))) = some (r1, r2, r3, r4, r5, r6, r7) := H
      have A77 := Aside0.mk A770
      clear A770
      replace H := Option.bind_eq_some_iff.mp H
      obtain ⟨⟨t220, t221, t222, t225, t226, t227, t230⟩, A780, H⟩ := H
      replace H : (some (t220, t221, t222, t225, t226, t227, t230)) = some (r1, r2, r3, r4, r5, r6, r7) := H
      have A78 := Aside0.mk A780
      clear A780
      simp only [Option.some.injEq, Prod.mk.injEq] at H
      obtain ⟨rfl, rfl, rfl, rfl, rfl, rfl, rfl⟩ := H
      go_enter Try.func30, Try.ntmps30
      go_wp2_with (first | ((with_reducible refine gate_dst (N := 4) rfl ?_); refine box_event ?hg (N := 4) ?hd (cs := #[.int .i64 0, .string (⟨#[]⟩ : ByteArray), .slice none 0 0, .int .i64 0, .int .i64 0, .slice none 0 0]) (t := 29) ?hr ?_; (case hd => rfl); (case hg => rfl); (case hr => first | (go_simp; done) | (go_simp; rfl)); intro ga hg w79 hbox hb; have n0_ := Aside0.mk (IsS51.below (by repeat (first | (with_reducible first | exact HI0.out | apply jn | apply jo | apply jp | apply jq) | exact HI0.out)) hb); have n1_ := Aside0.mk (KeepBut.trans (by repeat (first | (with_reducible first | exact HK.out | apply jg | apply jd | apply je | apply jf) | exact HK.out)) (KeepBut.of_below hb g none) (.inl rfl)); have n2_ := Aside0.mk (below_step (by repeat (first | (with_reducible first | exact HB.out | apply js | apply jt | apply ju | refine jj ?_ (jv HI0.out)) | exact HB.out)) hb); have n3_ := Aside0.mk (hbox); have n4_ := Aside0.mk ((by rw [hg]; exact (keep_size (w := w) (g := g) (row := none) (by repeat (first | (with_reducible first | exact HK.out | apply jg | apply jd | apply je | apply jf) | exact HK.out))) : w.heap.size ≤ ga)); have n5_ := Aside0.mk ((Nat.le_trans HW0.out (by rw [hg]; exact (keep_size (w := w) (g := g) (row := none) (by repeat (first | (with_reducible first | exact HK.out | apply jg | apply jd | apply je | apply jf) | exact HK.out))) : w.heap.size ≤ ga) : w0.heap.size ≤ ga)); have n6_ := Aside0.mk ((by rw [hg]; exact Nat.ne_of_lt (IsS51.lt (show IsS51 w0 _ g s0_0 s0_1 from by repeat (first | (with_reducible first | exact HI0.out | apply jn | apply jo | apply jp | apply jq) | exact HI0.out))) : g ≠ ga)); have n7_ := Aside0.mk ((by rw [hg]; exact Nat.ne_of_gt (IsS51.lt (show IsS51 w0 _ g s0_0 s0_1 from by repeat (first | (with_reducible first | exact HI0.out | apply jn | apply jo | apply jp | apply jq) | exact HI0.out))) : ga ≠ g)); clear HI0; clear HK; clear HB; have HI0 := n0_; have HK := n1_; have HB := n2_; have qn1 := n3_; have ql1 := n4_; have qm1 := n5_; have qp := n6_; have qt := n7_; clear n0_ n1_ n2_ n3_ n4_ n5_ n6_ n7_; clear hb hbox hg) | ((with_reducible refine gate_callee (f := 24) rfl ?_); refine goesL_ (some 15) rfl rfl Try.func24 (by kernel_rfl) rfl #[.pointer (some ⟨g, 0, none⟩), .int .i64 6] rfl (by (try simp only [List.map_toArray, List.map_cons, List.map_nil]); first | done | rfl | (simp only [List.length_drop, List.length_take]; rfl)) ?_; (with_reducible refine (spec_l1Rd_pick.calls k g s0_0 s0_1 6 t165 t166 w0 _ ?side1 ?side2 A7.out).mono ?_); (case side1 => repeat (first | (with_reducible first | exact HI0.out | apply jn | apply jo | apply jp | apply jq | refine jr ?_ qp.out _) | exact HI0.out)); (case side2 => repeat (first | (with_reducible first | exact HB.out | apply js | apply jt | apply ju | refine jj ?_ (jv HI0.out) | refine jj ?_ qm1.out) | exact HB.out)); rintro e w80 ⟨rfl, hi, hb, hk⟩; refine ⟨_, rfl, ?_⟩; have n0_ := Aside0.mk (KeepBut.blk hk (g' := ga) (o := .cells #[.int .i64 0, .string (⟨#[]⟩ : ByteArray), .slice none 0 0, .int .i64 0, .int .i64 0, .slice none 0 0] 29 (0, 0)) (by (with_reducible repeat (first | refine ja ?_ _ | refine jb ?_ | refine jc ?_ _)); exact qn1.out) qt.out (by simp)); have n1_ := Aside0.mk (KeepBut.trans (by repeat (first | (with_reducible first | exact HK.out | apply jg | apply jd | apply je | apply jf | refine keep_far ?_ ql1.out _) | exact HK.out)) hk (.inl rfl)); have n2_ := Aside0.mk (hb); have n3_ := Aside0.mk (hi); clear qn1; clear HK; clear HB; clear HI0; have qn1 := n0_; have HK := n1_; have HB := n2_; have HI0 := n3_; clear n0_ n1_ n2_ n3_; (try clear hb); (try clear hb2); (try clear hk); (try clear hi)) | ((with_reducible refine gate_callee (f := 24) rfl ?_); refine goesL_ (some 76) rfl rfl Try.func24 (by kernel_rfl) rfl #[.pointer (some ⟨g, 0, none⟩), .int .i64 4] rfl (by (try simp only [List.map_toArray, List.map_cons, List.map_nil]); first | done | rfl | (simp only [List.length_drop, List.length_take]; rfl)) ?_; (with_reducible refine (spec_l1Rd_pick.calls k g s0_0 t166 4 t216 t217 w0 _ ?side1 ?side2 A76.out).mono ?_); (case side1 => repeat (first | (with_reducible first | exact HI0.out | apply jn | apply jo | apply jp | apply jq | refine jr ?_ qp.out _) | exact HI0.out)); (case side2 => repeat (first | (with_reducible first | exact HB.out | apply js | apply jt | apply ju | refine jj ?_ (jv HI0.out) | refine jj ?_ qm1.out) | exact HB.out)); rintro e w81 ⟨rfl, hi, hb, hk⟩; refine ⟨_, rfl, ?_⟩; have n0_ := Aside0.mk (KeepBut.blk hk (g' := ga) (o := .cells #[.int .i64 0, .string (⟨#[]⟩ : ByteArray), .slice none 0 0, .int .i64 0, .int .i64 0, .slice none 0 0] 29 (0, 0)) (by (with_reducible repeat (first | refine ja ?_ _ | refine jb ?_ | refine jc ?_ _)); exact qn1.out) qt.out (by simp)); have n1_ := Aside0.mk (KeepBut.trans (by repeat (first | (with_reducible first | exact HK.out | apply jg | apply jd | apply je | apply jf | refine keep_far ?_ ql1.out _) | exact HK.out)) hk (.inl rfl)); have n2_ := Aside0.mk (hb); have n3_ := Aside0.mk (hi); clear qn1; clear HK; clear HB; clear HI0; have qn1 := n0_; have HK := n1_; have HB := n2_; have HI0 := n3_; clear n0_ n1_ n2_ n3_; (try clear hb); (try clear hb2); (try clear hk); (try clear hi)) | ((with_reducible refine gate_callee (f := 24) rfl ?_); refine goesL_ (some 78) rfl rfl Try.func24 (by kernel_rfl) rfl #[.pointer (some ⟨g, 0, none⟩), .int .i64 4] rfl (by (try simp only [List.map_toArray, List.map_cons, List.map_nil]); first | done | rfl | (simp only [List.length_drop, List.length_take]; rfl)) ?_; (with_reducible refine (spec_l1Rd_pick.calls k g s0_0 t217 4 t218 t219 w0 _ ?side1 ?side2 A77.out).mono ?_); (case side1 => repeat (first | (with_reducible first | exact HI0.out | apply jn | apply jo | apply jp | apply jq | refine jr ?_ qp.out _) | exact HI0.out)); (case side2 => repeat (first | (with_reducible first | exact HB.out | apply js | apply jt | apply ju | refine jj ?_ (jv HI0.out) | refine jj ?_ qm1.out) | exact HB.out)); rintro e w82 ⟨rfl, hi, hb, hk⟩; refine ⟨_, rfl, ?_⟩; have n0_ := Aside0.mk (KeepBut.blk hk (g' := ga) (o := .cells #[.int .i64 0, .string (⟨#[]⟩ : ByteArray), .slice none 0 0, .int .i64 0, .int .i64 0, .slice none 0 0] 29 (0, 0)) (by (with_reducible repeat (first | refine ja ?_ _ | refine jb ?_ | refine jc ?_ _)); exact qn1.out) qt.out (by simp)); have n1_ := Aside0.mk (KeepBut.trans (by repeat (first | (with_reducible first | exact HK.out | apply jg | apply jd | apply je | apply jf | refine keep_far ?_ ql1.out _) | exact HK.out)) hk (.inl rfl)); have n2_ := Aside0.mk (hb); have n3_ := Aside0.mk (hi); clear qn1; clear HK; clear HB; clear HI0; have qn1 := n0_; have HK := n1_; have HB := n2_; have HI0 := n3_; clear n0_ n1_ n2_ n3_; (try clear hb); (try clear hb2); (try clear hk); (try clear hi)) | ((with_reducible refine gate_callee (f := 37) rfl ?_); refine goesL_ (some 80) rfl rfl Try.func37 (by kernel_rfl) rfl #[.pointer (some ⟨g, 0, none⟩), .int .i64 t216, .int .i64 t218, .int .i64 a1] rfl (by (try simp only [List.map_toArray, List.map_cons, List.map_nil]); first | done | rfl | (simp only [List.length_drop, List.length_take]; rfl)) ?_; (with_reducible refine (spec_l13Struct.callsK k (fun m hm => ih m (by omega)) g s0_0 t219 t216 t218 a1 t220 t221 t222 t225 t226 t227 t230 w0 _ ?side1 ?side2 (by first | exact A78.out | (unfold spec_l13Struct.f; exact A78.out))).mono ?_); (case side1 => repeat (first | (with_reducible first | exact HI0.out | apply jn | apply jo | apply jp | apply jq | refine jr ?_ qp.out _) | exact HI0.out)); (case side2 => repeat (first | (with_reducible first | exact HB.out | apply js | apply jt | apply ju | refine jj ?_ (jv HI0.out) | refine jj ?_ qm1.out) | exact HB.out)); rintro e w83 ⟨v223, v228, rfl, ho0, ho1, hi, hb, hk⟩; refine ⟨_, rfl, ?_⟩; have n0_ := Aside0.mk (KeepBut.blk hk (g' := ga) (o := .cells #[.int .i64 0, .string (⟨#[]⟩ : ByteArray), .slice none 0 0, .int .i64 0, .int .i64 0, .slice none 0 0] 29 (0, 0)) (by (with_reducible repeat (first | refine ja ?_ _ | refine jb ?_ | refine jc ?_ _)); exact qn1.out) qt.out (by simp)); have n1_ := Aside0.mk (Kd.R_lower (Kd.R_newB ho0 (g := ga) (o := .cells #[.int .i64 0, .string (⟨#[]⟩ : ByteArray), .slice none 0 0, .int .i64 0, .int .i64 0, .slice none 0 0] 29 (0, 0)) (by (with_reducible repeat (first | refine ja ?_ _ | refine jb ?_ | refine jc ?_ _)); exact qn1.out)) (keep_size (w := w) (g := g) (row := none) (by repeat (first | (with_reducible first | exact HK.out | apply jg | apply jd | apply je | apply jf | refine keep_far ?_ ql1.out _) | exact HK.out)))); have n2_ := Aside0.mk (Kd.R_lower (Kd.R_newB ho1 (g := ga) (o := .cells #[.int .i64 0, .string (⟨#[]⟩ : ByteArray), .slice none 0 0, .int .i64 0, .int .i64 0, .slice none 0 0] 29 (0, 0)) (by (with_reducible repeat (first | refine ja ?_ _ | refine jb ?_ | refine jc ?_ _)); exact qn1.out)) (keep_size (w := w) (g := g) (row := none) (by repeat (first | (with_reducible first | exact HK.out | apply jg | apply jd | apply je | apply jf | refine keep_far ?_ ql1.out _) | exact HK.out)))); have n3_ := Aside0.mk (KeepBut.trans (by repeat (first | (with_reducible first | exact HK.out | apply jg | apply jd | apply je | apply jf | refine keep_far ?_ ql1.out _) | exact HK.out)) hk (.inl rfl)); have n4_ := Aside0.mk (hb); have n5_ := Aside0.mk (hi); clear qn1; clear HK; clear HB; clear HI0; have qn1 := n0_; have HO224 := n1_; have HO229 := n2_; have HK := n3_; have HB := n4_; have HI0 := n5_; clear n0_ n1_ n2_ n3_ n4_ n5_; (try clear hb); (try clear hb2); (try clear hk); (try clear hi); (try clear ho0); (try clear ho1); have hnb84 := qt.out; have hnc84 := qp.out; have hcz85_0 : w83.cell? ⟨ga, 0, none⟩ = some (.int .i64 0) := (jh qn1.out 0).trans rfl; have hcz85_1 : w83.cell? ⟨ga, 1, none⟩ = some (.string (⟨#[]⟩ : ByteArray)) := (jh qn1.out 1).trans rfl; have hcz85_2 : w83.cell? ⟨ga, 2, none⟩ = some (.slice none 0 0) := (jh qn1.out 2).trans rfl; have hcz85_3 : w83.cell? ⟨ga, 3, none⟩ = some (.int .i64 0) := (jh qn1.out 3).trans rfl; have hcz85_4 : w83.cell? ⟨ga, 4, none⟩ = some (.int .i64 0) := (jh qn1.out 4).trans rfl; have hcz85_5 : w83.cell? ⟨ga, 5, none⟩ = some (.slice none 0 0) := (jh qn1.out 5).trans rfl; have hfz85_0 := ji qn1.out 0; have hfz85_1 := ji qn1.out 1; have hfz85_2 := ji qn1.out 2; have hfz85_3 := ji qn1.out 3; have hfz85_4 := ji qn1.out 4; have hfz85_5 := ji qn1.out 5; obtain ⟨Ao86, co86, eo86⟩ := Kd.R_slice HO224.out; subst eo86; obtain ⟨Ao87, co87, eo87⟩ := Kd.R_slice HO229.out; subst eo87))
      refine bodyPost_ret (results_cell_row rfl _ _ ga 29 #[.int .i64 t220, .string t221, .slice Ao86 t222.length co86, .int .i64 t225, .int .i64 t226, .slice Ao87 t227.length co87] (0, 0) _ rfl (by (with_reducible repeat (first | refine ja ?_ _ | refine jb ?_ | refine jc ?_ _)); refine jm (cs := #[.int .i64 t220, .string t221, .slice Ao86 t222.length co86, .int .i64 t225, .int .i64 t226, .slice none 0 0]) ?_ 5 _ rfl; (with_reducible repeat (first | refine ja ?_ _ | refine jb ?_ | refine jc ?_ _)); refine jm (cs := #[.int .i64 t220, .string t221, .slice Ao86 t222.length co86, .int .i64 t225, .int .i64 0, .slice none 0 0]) ?_ 4 _ rfl; (with_reducible repeat (first | refine ja ?_ _ | refine jb ?_ | refine jc ?_ _)); refine jm (cs := #[.int .i64 t220, .string t221, .slice Ao86 t222.length co86, .int .i64 0, .int .i64 0, .slice none 0 0]) ?_ 3 _ rfl; (with_reducible repeat (first | refine ja ?_ _ | refine jb ?_ | refine jc ?_ _)); refine jm (cs := #[.int .i64 t220, .string t221, .slice none 0 0, .int .i64 0, .int .i64 0, .slice none 0 0]) ?_ 2 _ rfl; (with_reducible repeat (first | refine ja ?_ _ | refine jb ?_ | refine jc ?_ _)); refine jm (cs := #[.int .i64 t220, .string (⟨#[]⟩ : ByteArray), .slice none 0 0, .int .i64 0, .int .i64 0, .slice none 0 0]) ?_ 1 _ rfl; (with_reducible repeat (first | refine ja ?_ _ | refine jb ?_ | refine jc ?_ _)); refine jm (cs := #[.int .i64 0, .string (⟨#[]⟩ : ByteArray), .slice none 0 0, .int .i64 0, .int .i64 0, .slice none 0 0]) ?_ 0 _ rfl; (with_reducible repeat (first | refine ja ?_ _ | refine jb ?_ | refine jc ?_ _)); exact qn1.out) Try.underlying29 rfl (by kernel_rfl)) rfl ?_
      exact ⟨_, _, by first | rfl | (simp [errW_none, errW_some] <;> rfl) | (simp [*, errW_none, errW_some] <;> rfl), by (with_reducible repeat (first | apply Kd.R_alloc | apply Kd.R_drewN | apply Kd.R_drew)); exact Kd.R_mono (Kd.R_far (p := ⟨ga, 5, none⟩) (Kd.R_far (p := ⟨ga, 4, none⟩) (Kd.R_far (p := ⟨ga, 3, none⟩) (Kd.R_far (p := ⟨ga, 2, none⟩) (Kd.R_far (p := ⟨ga, 1, none⟩) (Kd.R_far (p := ⟨ga, 0, none⟩) (Kd.R_mono HO224.out (fun k_ hk => (⟨hk, hk.2⟩ : _ ∧ k_ ≠ ga))) (fun _ hk => hk.2) (.int .i64 t220)) (fun _ hk => hk.2) (.string t221)) (fun _ hk => hk.2) (.slice Ao86 t222.length co86)) (fun _ hk => hk.2) (.int .i64 t225)) (fun _ hk => hk.2) (.int .i64 t226)) (fun _ hk => hk.2) (.slice Ao87 t227.length co87)) (fun _ hk => hk.1.1), by (with_reducible repeat (first | apply Kd.R_alloc | apply Kd.R_drewN | apply Kd.R_drew)); exact Kd.R_mono (Kd.R_far (p := ⟨ga, 5, none⟩) (Kd.R_far (p := ⟨ga, 4, none⟩) (Kd.R_far (p := ⟨ga, 3, none⟩) (Kd.R_far (p := ⟨ga, 2, none⟩) (Kd.R_far (p := ⟨ga, 1, none⟩) (Kd.R_far (p := ⟨ga, 0, none⟩) (Kd.R_mono HO229.out (fun k_ hk => (⟨hk, hk.2⟩ : _ ∧ k_ ≠ ga))) (fun _ hk => hk.2) (.int .i64 t220)) (fun _ hk => hk.2) (.string t221)) (fun _ hk => hk.2) (.slice Ao86 t222.length co86)) (fun _ hk => hk.2) (.int .i64 t225)) (fun _ hk => hk.2) (.int .i64 t226)) (fun _ hk => hk.2) (.slice Ao87 t227.length co87)) (fun _ hk => hk.1.1), by repeat (first | (with_reducible first | exact HI0.out | apply jn | apply jo | apply jp | apply jq | refine jr ?_ qp.out _) | exact HI0.out), by repeat (first | (with_reducible first | exact HB.out | apply js | apply jt | apply ju | refine jj ?_ (jv HI0.out) | refine jj ?_ qm1.out) | exact HB.out), by repeat (first | (with_reducible first | exact HK.out | apply jg | apply jd | apply je | apply jf | refine keep_far ?_ ql1.out _) | exact HK.out)⟩

end Go.Proofs.Ytjiidjlmdibhdaa.P
