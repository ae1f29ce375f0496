-- PRINTED by print.py (a twelfth state) out of the translation. Not trusted: Lean checks it.
import Derived.Test.YtjeipkfeihahdaaDoorPx0
namespace Go.Proofs.YtjeipkfeihahdaaDoor.P
open Go.RowKit Go.Proofs.YtjeipkfeihahdaaDoorW.PrintWords Go.Proofs.YtjeipkfeihahdaaDoorW.PrintLast Go.Proofs.YtjeipkfeihahdaaDoorW.PrintMore
attribute [local go_sem] max2_int min2_int max_two min_two max_three min_three max_four min_four   -- for this text's walks alone
set_option linter.unusedVariables false
set_option linter.unusedSimpArgs false

/-! ### spec_l13Turn: function 64 -/
def spec_l13Turn.f (a0_0 : ByteArray) (a0_1 : Int) (a0_2 : ByteArray) (a0_3 : Bool) (a0_4 : Bool) (a0_5 : Int) (a1_0 : ByteArray) (a1_1 : Int) (a1_2 : ByteArray) (a1_3 : Bool) (a1_4 : Bool) (a1_5 : Int) : Option (ByteArray × Int × ByteArray × Bool × Bool × Int × ByteArray × Int × ByteArray × Bool × Bool × Int) := some (a1_0, a1_1, a1_2, a1_3, a1_4, a1_5, a0_0, a0_1, a0_2, a0_3, a0_4, a0_5)
set_option maxHeartbeats 8000000 in
set_option maxRecDepth 100000 in
theorem spec_l13Turn.calls (a0_0 : ByteArray) (a0_1 : Int) (a0_2 : ByteArray) (a0_3 : Bool) (a0_4 : Bool) (a0_5 : Int) (a1_0 : ByteArray) (a1_1 : Int) (a1_2 : ByteArray) (a1_3 : Bool) (a1_4 : Bool) (a1_5 : Int) (r1 : ByteArray) (r2 : Int) (r3 : ByteArray) (r4 : Bool) (r5 : Bool) (r6 : Int) (r7 : ByteArray) (r8 : Int) (r9 : ByteArray) (r10 : Bool) (r11 : Bool) (r12 : Int) (w : World) (h : spec_l13Turn.f a0_0 a0_1 a0_2 a0_3 a0_4 a0_5 a1_0 a1_1 a1_2 a1_3 a1_4 a1_5 = some (r1, r2, r3, r4, r5, r6, r7, r8, r9, r10, r11, r12)) :
  Calls Tryd.prog 64 #[.agg #[.string a0_0, .int .i64 a0_1, .string a0_2, .bool a0_3, .bool a0_4, .int .i64 a0_5], .agg #[.string a1_0, .int .i64 a1_1, .string a1_2, .bool a1_3, .bool a1_4, .int .i64 a1_5]] w fun e w' => e = .returned (.tuple #[.agg #[.string r1, .int .i64 r2, .string r3, .bool r4, .bool r5, .int .i64 r6], .agg #[.string r7, .int .i64 r8, .string r9, .bool r10, .bool r11, .int .i64 r12]]) ∧ Below w.heap.size w w' := by
 have hu36 := Tryd.underlying36
 have HB := Aside0.mk (Below.refl w.heap.size w)
 have H : (some (a1_0, a1_1, a1_2, a1_3, a1_4, a1_5, a0_0, a0_1, a0_2, a0_3, a0_4, a0_5)) = some (r1, r2, r3, r4, r5, r6, r7, r8, r9, r10, r11, r12) := h
 clear h
 simp only [Option.some.injEq, Prod.mk.injEq] at H
 obtain ⟨rfl, rfl, rfl, rfl, rfl, rfl, rfl, rfl, rfl, rfl, rfl, rfl⟩ := H
 go_enter Tryd.func64, Tryd.ntmps64
 try go_wp2_with (first | ((with_reducible refine gate_dst (N := 2) rfl ?_); refine box_event ?hg (N := 2) ?hd (cs := #[.string a0_0, .int .i64 a0_1, .string a0_2, .bool a0_3, .bool a0_4, .int .i64 a0_5]) (t := 36) ?hr ?_; (case hd => rfl); (case hg => rfl); (case hr => first | (go_simp; done) | (go_simp; rfl)); intro gb121 hg w3 hbox hb; have n0_ := Aside0.mk (below_step (by repeat (first | (with_reducible first | exact HB.out | apply below_alloc | apply pw_below_drewN | apply below_drew1) | exact HB.out)) hb); have n1_ := Aside0.mk (hbox); have n2_ := Aside0.mk ((by rw [hg]; exact (below_size (by repeat (first | (with_reducible first | exact HB.out | apply below_alloc | apply pw_below_drewN | apply below_drew1) | exact HB.out))) : w.heap.size ≤ gb121)); have n3_ := Aside0.mk ((by rw [hg]; exact (below_size (by repeat (first | (with_reducible first | exact HB.out | apply below_alloc | apply pw_below_drewN | apply below_drew1) | exact HB.out))) : w.heap.size ≤ gb121)); clear HB; have HB := n0_; have qw := n1_; have qr := n2_; have qq := n3_; clear n0_ n1_ n2_ n3_; clear hb hbox hg) | ((with_reducible refine gate_dst (N := 3) rfl ?_); refine box_event ?hg (N := 3) ?hd (cs := #[.string a1_0, .int .i64 a1_1, .string a1_2, .bool a1_3, .bool a1_4, .int .i64 a1_5]) (t := 36) ?hr ?_; (case hd => rfl); (case hg => rfl); (case hr => first | (go_simp; done) | (go_simp; rfl)); intro gb122 hg w4 hbox hb; have n0_ := Aside0.mk (blk_below (g := gb121) (o := .cells #[.string a0_0, .int .i64 a0_1, .string a0_2, .bool a0_3, .bool a0_4, .int .i64 a0_5] 36 (0, 0)) (by (with_reducible repeat (first | refine blk_drewN ?_ _ | refine blk_drew ?_ | refine blk_alloc ?_ _)); exact qw.out) hb); have n1_ := Aside0.mk (below_step (by repeat (first | (with_reducible first | exact HB.out | apply below_alloc | apply pw_below_drewN | apply below_drew1 | refine below_set ?_ qq.out) | exact HB.out)) hb); have n2_ := Aside0.mk (hbox); have n3_ := Aside0.mk ((by rw [hg]; exact (below_size (by repeat (first | (with_reducible first | exact HB.out | apply below_alloc | apply pw_below_drewN | apply below_drew1 | refine below_set ?_ qq.out) | exact HB.out))) : w.heap.size ≤ gb122)); have n4_ := Aside0.mk ((by rw [hg]; exact (below_size (by repeat (first | (with_reducible first | exact HB.out | apply below_alloc | apply pw_below_drewN | apply below_drew1 | refine below_set ?_ qq.out) | exact HB.out))) : w.heap.size ≤ gb122)); have n5_ := Aside0.mk ((by rw [hg]; exact Nat.ne_of_lt (blk_lt (g := gb121) (o := .cells #[.string a0_0, .int .i64 a0_1, .string a0_2, .bool a0_3, .bool a0_4, .int .i64 a0_5] 36 (0, 0)) (by (with_reducible repeat (first | refine blk_drewN ?_ _ | refine blk_drew ?_ | refine blk_alloc ?_ _)); exact qw.out)) : gb121 ≠ gb122)); have n6_ := Aside0.mk ((by rw [hg]; exact Nat.ne_of_gt (blk_lt (g := gb121) (o := .cells #[.string a0_0, .int .i64 a0_1, .string a0_2, .bool a0_3, .bool a0_4, .int .i64 a0_5] 36 (0, 0)) (by (with_reducible repeat (first | refine blk_drewN ?_ _ | refine blk_drew ?_ | refine blk_alloc ?_ _)); exact qw.out)) : gb122 ≠ gb121)); clear qw; clear HB; have qw := n0_; have HB := n1_; have qu := n2_; have qt := n3_; have qo := n4_; have qk := n5_; have qc := n6_; clear n0_ n1_ n2_ n3_ n4_ n5_ n6_; clear hb hbox hg) | ((with_reducible refine gate_dst (N := 4) rfl ?_); refine box_event ?hg (N := 4) ?hd (cs := #[.string (⟨#[]⟩ : ByteArray), .int .i64 0, .string (⟨#[]⟩ : ByteArray), .bool false, .bool false, .int .i64 0]) (t := 36) ?hr ?_; (case hd => rfl); (case hg => rfl); (case hr => first | (go_simp; done) | (go_simp; rfl)); intro gb123 hg w5 hbox hb; have n0_ := Aside0.mk (blk_below (g := gb121) (o := .cells #[.string a0_0, .int .i64 a0_1, .string a0_2, .bool a0_3, .bool a0_4, .int .i64 a0_5] 36 (0, 0)) (by (with_reducible repeat (first | refine blk_drewN ?_ _ | refine blk_drew ?_ | refine blk_alloc ?_ _)); exact qw.out) hb); have n1_ := Aside0.mk (blk_below (g := gb122) (o := .cells #[.string a1_0, .int .i64 a1_1, .string a1_2, .bool a1_3, .bool a1_4, .int .i64 a1_5] 36 (0, 0)) (by (with_reducible repeat (first | refine blk_drewN ?_ _ | refine blk_drew ?_ | refine blk_alloc ?_ _)); exact qu.out) hb); have n2_ := Aside0.mk (below_step (by repeat (first | (with_reducible first | exact HB.out | apply below_alloc | apply pw_below_drewN | apply below_drew1 | refine below_set ?_ qq.out | refine below_set ?_ qo.out) | exact HB.out)) hb); have n3_ := Aside0.mk (hbox); have n4_ := Aside0.mk ((by rw [hg]; exact (below_size (by repeat (first | (with_reducible first | exact HB.out | apply below_alloc | apply pw_below_drewN | apply below_drew1 | refine below_set ?_ qq.out | refine below_set ?_ qo.out) | exact HB.out))) : w.heap.size ≤ gb123)); have n5_ := Aside0.mk ((by rw [hg]; exact (below_size (by repeat (first | (with_reducible first | exact HB.out | apply below_alloc | apply pw_below_drewN | apply below_drew1 | refine below_set ?_ qq.out | refine below_set ?_ qo.out) | exact HB.out))) : w.heap.size ≤ gb123)); have n6_ := Aside0.mk ((by rw [hg]; exact Nat.ne_of_lt (blk_lt (g := gb121) (o := .cells #[.string a0_0, .int .i64 a0_1, .string a0_2, .bool a0_3, .bool a0_4, .int .i64 a0_5] 36 (0, 0)) (by (with_reducible repeat (first | refine blk_drewN ?_ _ | refine blk_drew ?_ | refine blk_alloc ?_ _)); exact qw.out)) : gb121 ≠ gb123)); have n7_ := Aside0.mk ((by rw [hg]; exact Nat.ne_of_gt (blk_lt (g := gb121) (o := .cells #[.string a0_0, .int .i64 a0_1, .string a0_2, .bool a0_3, .bool a0_4, .int .i64 a0_5] 36 (0, 0)) (by (with_reducible repeat (first | refine blk_drewN ?_ _ | refine blk_drew ?_ | refine blk_alloc ?_ _)); exact qw.out)) : gb123 ≠ gb121)); have n8_ := Aside0.mk ((by rw [hg]; exact Nat.ne_of_lt (blk_lt (g := gb122) (o := .cells #[.string a1_0, .int .i64 a1_1, .string a1_2, .bool a1_3, .bool a1_4, .int .i64 a1_5] 36 (0, 0)) (by (with_reducible repeat (first | refine blk_drewN ?_ _ | refine blk_drew ?_ | refine blk_alloc ?_ _)); exact qu.out)) : gb122 ≠ gb123)); have n9_ := Aside0.mk ((by rw [hg]; exact Nat.ne_of_gt (blk_lt (g := gb122) (o := .cells #[.string a1_0, .int .i64 a1_1, .string a1_2, .bool a1_3, .bool a1_4, .int .i64 a1_5] 36 (0, 0)) (by (with_reducible repeat (first | refine blk_drewN ?_ _ | refine blk_drew ?_ | refine blk_alloc ?_ _)); exact qu.out)) : gb123 ≠ gb122)); clear qw; clear qu; clear HB; have qw := n0_; have qu := n1_; have HB := n2_; have qv := n3_; have qn := n4_; have qp := n5_; have qb := n6_; have qi := n7_; have qh := n8_; have qd := n9_; clear n0_ n1_ n2_ n3_ n4_ n5_ n6_ n7_ n8_ n9_; clear hb hbox hg) | ((with_reducible refine gate_dst (N := 5) rfl ?_); refine box_event ?hg (N := 5) ?hd (cs := #[.string (⟨#[]⟩ : ByteArray), .int .i64 0, .string (⟨#[]⟩ : ByteArray), .bool false, .bool false, .int .i64 0]) (t := 36) ?hr ?_; (case hd => rfl); (case hg => rfl); (case hr => first | (go_simp; done) | (go_simp; rfl)); intro gb124 hg w6 hbox hb; have n0_ := Aside0.mk (blk_below (g := gb121) (o := .cells #[.string a0_0, .int .i64 a0_1, .string a0_2, .bool a0_3, .bool a0_4, .int .i64 a0_5] 36 (0, 0)) (by (with_reducible repeat (first | refine blk_drewN ?_ _ | refine blk_drew ?_ | refine blk_alloc ?_ _)); exact qw.out) hb); have n1_ := Aside0.mk (blk_below (g := gb122) (o := .cells #[.string a1_0, .int .i64 a1_1, .string a1_2, .bool a1_3, .bool a1_4, .int .i64 a1_5] 36 (0, 0)) (by (with_reducible repeat (first | refine blk_drewN ?_ _ | refine blk_drew ?_ | refine blk_alloc ?_ _)); exact qu.out) hb); have n2_ := Aside0.mk (blk_below (g := gb123) (o := .cells #[.string (⟨#[]⟩ : ByteArray), .int .i64 0, .string (⟨#[]⟩ : ByteArray), .bool false, .bool false, .int .i64 0] 36 (0, 0)) (by (with_reducible repeat (first | refine blk_drewN ?_ _ | refine blk_drew ?_ | refine blk_alloc ?_ _)); exact qv.out) hb); have n3_ := Aside0.mk (below_step (by repeat (first | (with_reducible first | exact HB.out | apply below_alloc | apply pw_below_drewN | apply below_drew1 | refine below_set ?_ qq.out | refine below_set ?_ qo.out | refine below_set ?_ qp.out) | exact HB.out)) hb); have n4_ := Aside0.mk (hbox); have n5_ := Aside0.mk ((by rw [hg]; exact (below_size (by repeat (first | (with_reducible first | exact HB.out | apply below_alloc | apply pw_below_drewN | apply below_drew1 | refine below_set ?_ qq.out | refine below_set ?_ qo.out | refine below_set ?_ qp.out) | exact HB.out))) : w.heap.size ≤ gb124)); have n6_ := Aside0.mk ((by rw [hg]; exact (below_size (by repeat (first | (with_reducible first | exact HB.out | apply below_alloc | apply pw_below_drewN | apply below_drew1 | refine below_set ?_ qq.out | refine below_set ?_ qo.out | refine below_set ?_ qp.out) | exact HB.out))) : w.heap.size ≤ gb124)); have n7_ := Aside0.mk ((by rw [hg]; exact Nat.ne_of_lt (blk_lt (g := gb121) (o := .cells #[.string a0_0, .int .i64 a0_1, .string a0_2, .bool a0_3, .bool a0_4, .int .i64 a0_5] 36 (0, 0)) (by (with_reducible repeat (first | refine blk_drewN ?_ _ | refine blk_drew ?_ | refine blk_alloc ?_ _)); exact qw.out)) : gb121 ≠ gb124)); have n8_ := Aside0.mk ((by rw [hg]; exact Nat.ne_of_gt (blk_lt (g := gb121) (o := .cells #[.string a0_0, .int .i64 a0_1, .string a0_2, .bool a0_3, .bool a0_4, .int .i64 a0_5] 36 (0, 0)) (by (with_reducible repeat (first | refine blk_drewN ?_ _ | refine blk_drew ?_ | refine blk_alloc ?_ _)); exact qw.out)) : gb124 ≠ gb121)); have n9_ := Aside0.mk ((by rw [hg]; exact Nat.ne_of_lt (blk_lt (g := gb122) (o := .cells #[.string a1_0, .int .i64 a1_1, .string a1_2, .bool a1_3, .bool a1_4, .int .i64 a1_5] 36 (0, 0)) (by (with_reducible repeat (first | refine blk_drewN ?_ _ | refine blk_drew ?_ | refine blk_alloc ?_ _)); exact qu.out)) : gb122 ≠ gb124)); have n10_ := Aside0.mk ((by rw [hg]; exact Nat.ne_of_gt (blk_lt (g := gb122) (o := .cells #[.string a1_0, .int .i64 a1_1, .string a1_2, .bool a1_3, .bool a1_4, .int .i64 a1_5] 36 (0, 0)) (by (with_reducible repeat (first | refine blk_drewN ?_ _ | refine blk_drew ?_ | refine blk_alloc ?_ _)); exact qu.out)) : gb124 ≠ gb122)); have n11_ := Aside0.mk ((by rw [hg]; exact Nat.ne_of_lt (blk_lt (g := gb123) (o := .cells #[.string (⟨#[]⟩ : ByteArray), .int .i64 0, .string (⟨#[]⟩ : ByteArray), .bool false, .bool false, .int .i64 0] 36 (0, 0)) (by (with_reducible repeat (first | refine blk_drewN ?_ _ | refine blk_drew ?_ | refine blk_alloc ?_ _)); exact qv.out)) : gb123 ≠ gb124)); have n12_ := Aside0.mk ((by rw [hg]; exact Nat.ne_of_gt (blk_lt (g := gb123) (o := .cells #[.string (⟨#[]⟩ : ByteArray), .int .i64 0, .string (⟨#[]⟩ : ByteArray), .bool false, .bool false, .int .i64 0] 36 (0, 0)) (by (with_reducible repeat (first | refine blk_drewN ?_ _ | refine blk_drew ?_ | refine blk_alloc ?_ _)); exact qv.out)) : gb124 ≠ gb123)); clear qw; clear qu; clear qv; clear HB; have qw := n0_; have qu := n1_; have qv := n2_; have HB := n3_; have qs := n4_; have qx := n5_; have qm := n6_; have ql := n7_; have qf := n8_; have qj := n9_; have qe := n10_; have qg := n11_; have qa := n12_; clear n0_ n1_ n2_ n3_ n4_ n5_ n6_ n7_ n8_ n9_ n10_ n11_ n12_; clear hb hbox hg))
 have n0_ := Aside0.mk (blk_drew qw.out)
 have n1_ := Aside0.mk (blk_drew qu.out)
 have n2_ := Aside0.mk (blk_drew qv.out)
 have n3_ := Aside0.mk (blk_drew qs.out)
 have n4_ := Aside0.mk (below_drew1 HB.out)
 clear qw
 clear qu
 clear qv
 clear qs
 clear HB
 have qw := n0_
 have qu := n1_
 have qv := n2_
 have qs := n3_
 have HB := n4_
 clear n0_ n1_ n2_ n3_ n4_
 refine start_ (n := 4) (S := fun w' => w'.cell? ⟨gb122, 0, none⟩ = some (.string a1_0) ∧ w'.cell? ⟨gb122, 1, none⟩ = some (.int .i64 a1_1) ∧ w'.cell? ⟨gb122, 2, none⟩ = some (.string a1_2) ∧ w'.cell? ⟨gb122, 3, none⟩ = some (.bool a1_3) ∧ w'.cell? ⟨gb122, 4, none⟩ = some (.bool a1_4) ∧ w'.cell? ⟨gb122, 5, none⟩ = some (.int .i64 a1_5) ∧ w'.cell? ⟨gb121, 0, none⟩ = some (.string a0_0) ∧ w'.cell? ⟨gb121, 1, none⟩ = some (.int .i64 a0_1) ∧ w'.cell? ⟨gb121, 2, none⟩ = some (.string a0_2) ∧ w'.cell? ⟨gb121, 3, none⟩ = some (.bool a0_3) ∧ w'.cell? ⟨gb121, 4, none⟩ = some (.bool a0_4) ∧ w'.cell? ⟨gb121, 5, none⟩ = some (.int .i64 a0_5)) (ds := []) #[false, false, false, false] (by kernel_rfl) rfl rfl ⟨(blk_cell qu.out 0).trans rfl, (blk_cell qu.out 1).trans rfl, (blk_cell qu.out 2).trans rfl, (blk_cell qu.out 3).trans rfl, (blk_cell qu.out 4).trans rfl, (blk_cell qu.out 5).trans rfl, (blk_cell qw.out 0).trans rfl, (blk_cell qw.out 1).trans rfl, (blk_cell qw.out 2).trans rfl, (blk_cell qw.out 3).trans rfl, (blk_cell qw.out 4).trans rfl, (blk_cell qw.out 5).trans rfl⟩ (fun hHeld => ?_)
 generalize w6.drew = w7 at qw qu qv qs HB hHeld ⊢
 refine take_ (i := 0) (N := some 6) (v := ?_) (a' := ?_) #[true, false, false, false] rfl rfl (by kernel_rfl) (fun _ _ _ h => h) (Or.inl ⟨by rfl, ?_⟩) hHeld ?_ ?_
 rotate_left
 ·rintro w' ⟨s0, s1, s2, s3, s4, s5, s6, s7, s8, s9, s10, s11⟩
  go_simp
  with_reducible rfl
 rotate_left
 ·simp only [Act.put, List.setIfInBounds_toArray, List.set_cons_zero, List.set_cons_succ, i64_w, i32_w]
  rfl
 refine take_ (i := 1) (N := some 7) (v := ?_) (a' := ?_) #[true, true, false, false] rfl rfl (by kernel_rfl) (fun _ _ _ h => h) (Or.inl ⟨by rfl, ?_⟩) hHeld ?_ ?_
 rotate_left
 ·rintro w' ⟨s0, s1, s2, s3, s4, s5, s6, s7, s8, s9, s10, s11⟩
  go_simp
  with_reducible rfl
 rotate_left
 ·simp only [Act.put, List.setIfInBounds_toArray, List.set_cons_zero, List.set_cons_succ, i64_w, i32_w]
  rfl
 refine one_ (i := 2) (N := none) #[true, true, true, false] rfl rfl (by kernel_rfl) (by decide) (fun K hK => ?_)
 have hs8 : w7.cell? ⟨gb123, 0, none⟩ = some (.string (⟨#[]⟩ : ByteArray)) := (blk_cell qv.out 0).trans rfl
 have hfs8 := blk_frozen qv.out 0
 have hns8_0 := qb.out
 have hns8_1 := qh.out
 have hns8_3 := qa.out
 have hms8_0 := qi.out
 have hms8_1 := qd.out
 have hms8_3 := qg.out
 have hs9 : w7.cell? ⟨gb123, 1, none⟩ = some (.int .i64 0) := (blk_cell qv.out 1).trans rfl
 have hfs9 := blk_frozen qv.out 1
 have hns9_0 := qb.out
 have hns9_1 := qh.out
 have hns9_3 := qa.out
 have hms9_0 := qi.out
 have hms9_1 := qd.out
 have hms9_3 := qg.out
 have hs10 : w7.cell? ⟨gb123, 2, none⟩ = some (.string (⟨#[]⟩ : ByteArray)) := (blk_cell qv.out 2).trans rfl
 have hfs10 := blk_frozen qv.out 2
 have hns10_0 := qb.out
 have hns10_1 := qh.out
 have hns10_3 := qa.out
 have hms10_0 := qi.out
 have hms10_1 := qd.out
 have hms10_3 := qg.out
 have hs11 : w7.cell? ⟨gb123, 3, none⟩ = some (.bool false) := (blk_cell qv.out 3).trans rfl
 have hfs11 := blk_frozen qv.out 3
 have hns11_0 := qb.out
 have hns11_1 := qh.out
 have hns11_3 := qa.out
 have hms11_0 := qi.out
 have hms11_1 := qd.out
 have hms11_3 := qg.out
 have hs12 : w7.cell? ⟨gb123, 4, none⟩ = some (.bool false) := (blk_cell qv.out 4).trans rfl
 have hfs12 := blk_frozen qv.out 4
 have hns12_0 := qb.out
 have hns12_1 := qh.out
 have hns12_3 := qa.out
 have hms12_0 := qi.out
 have hms12_1 := qd.out
 have hms12_3 := qg.out
 have hs13 : w7.cell? ⟨gb123, 5, none⟩ = some (.int .i64 0) := (blk_cell qv.out 5).trans rfl
 have hfs13 := blk_frozen qv.out 5
 have hns13_0 := qb.out
 have hns13_1 := qh.out
 have hns13_3 := qa.out
 have hms13_0 := qi.out
 have hms13_1 := qd.out
 have hms13_3 := qg.out
 refine skip_ (w1 := ?_) (by rfl) rfl ?_ ?_
 rotate_left
 ·go_simp
  rfl
 refine hK.out _ _ ⟨((cell_far (p := ⟨gb123, _, none⟩) qh.out _).trans (((cell_far (p := ⟨gb123, _, none⟩) qh.out _).trans (((cell_far (p := ⟨gb123, _, none⟩) qh.out _).trans (((cell_far (p := ⟨gb123, _, none⟩) qh.out _).trans (((cell_far (p := ⟨gb123, _, none⟩) qh.out _).trans (((cell_far (p := ⟨gb123, _, none⟩) qh.out _).trans (hHeld.1)))))))))))), ((cell_far (p := ⟨gb123, _, none⟩) qh.out _).trans (((cell_far (p := ⟨gb123, _, none⟩) qh.out _).trans (((cell_far (p := ⟨gb123, _, none⟩) qh.out _).trans (((cell_far (p := ⟨gb123, _, none⟩) qh.out _).trans (((cell_far (p := ⟨gb123, _, none⟩) qh.out _).trans (((cell_far (p := ⟨gb123, _, none⟩) qh.out _).trans (hHeld.2.1)))))))))))), ((cell_far (p := ⟨gb123, _, none⟩) qh.out _).trans (((cell_far (p := ⟨gb123, _, none⟩) qh.out _).trans (((cell_far (p := ⟨gb123, _, none⟩) qh.out _).trans (((cell_far (p := ⟨gb123, _, none⟩) qh.out _).trans (((cell_far (p := ⟨gb123, _, none⟩) qh.out _).trans (((cell_far (p := ⟨gb123, _, none⟩) qh.out _).trans (hHeld.2.2.1)))))))))))), ((cell_far (p := ⟨gb123, _, none⟩) qh.out _).trans (((cell_far (p := ⟨gb123, _, none⟩) qh.out _).trans (((cell_far (p := ⟨gb123, _, none⟩) qh.out _).trans (((cell_far (p := ⟨gb123, _, none⟩) qh.out _).trans (((cell_far (p := ⟨gb123, _, none⟩) qh.out _).trans (((cell_far (p := ⟨gb123, _, none⟩) qh.out _).trans (hHeld.2.2.2.1)))))))))))), ((cell_far (p := ⟨gb123, _, none⟩) qh.out _).trans (((cell_far (p := ⟨gb123, _, none⟩) qh.out _).trans (((cell_far (p := ⟨gb123, _, none⟩) qh.out _).trans (((cell_far (p := ⟨gb123, _, none⟩) qh.out _).trans (((cell_far (p := ⟨gb123, _, none⟩) qh.out _).trans (((cell_far (p := ⟨gb123, _, none⟩) qh.out _).trans (hHeld.2.2.2.2.1)))))))))))), ((cell_far (p := ⟨gb123, _, none⟩) qh.out _).trans (((cell_far (p := ⟨gb123, _, none⟩) qh.out _).trans (((cell_far (p := ⟨gb123, _, none⟩) qh.out _).trans (((cell_far (p := ⟨gb123, _, none⟩) qh.out _).trans (((cell_far (p := ⟨gb123, _, none⟩) qh.out _).trans (((cell_far (p := ⟨gb123, _, none⟩) qh.out _).trans (hHeld.2.2.2.2.2.1)))))))))))), ((cell_far (p := ⟨gb123, _, none⟩) qb.out _).trans (((cell_far (p := ⟨gb123, _, none⟩) qb.out _).trans (((cell_far (p := ⟨gb123, _, none⟩) qb.out _).trans (((cell_far (p := ⟨gb123, _, none⟩) qb.out _).trans (((cell_far (p := ⟨gb123, _, none⟩) qb.out _).trans (((cell_far (p := ⟨gb123, _, none⟩) qb.out _).trans (hHeld.2.2.2.2.2.2.1)))))))))))), ((cell_far (p := ⟨gb123, _, none⟩) qb.out _).trans (((cell_far (p := ⟨gb123, _, none⟩) qb.out _).trans (((cell_far (p := ⟨gb123, _, none⟩) qb.out _).trans (((cell_far (p := ⟨gb123, _, none⟩) qb.out _).trans (((cell_far (p := ⟨gb123, _, none⟩) qb.out _).trans (((cell_far (p := ⟨gb123, _, none⟩) qb.out _).trans (hHeld.2.2.2.2.2.2.2.1)))))))))))), ((cell_far (p := ⟨gb123, _, none⟩) qb.out _).trans (((cell_far (p := ⟨gb123, _, none⟩) qb.out _).trans (((cell_far (p := ⟨gb123, _, none⟩) qb.out _).trans (((cell_far (p := ⟨gb123, _, none⟩) qb.out _).trans (((cell_far (p := ⟨gb123, _, none⟩) qb.out _).trans (((cell_far (p := ⟨gb123, _, none⟩) qb.out _).trans (hHeld.2.2.2.2.2.2.2.2.1)))))))))))), ((cell_far (p := ⟨gb123, _, none⟩) qb.out _).trans (((cell_far (p := ⟨gb123, _, none⟩) qb.out _).trans (((cell_far (p := ⟨gb123, _, none⟩) qb.out _).trans (((cell_far (p := ⟨gb123, _, none⟩) qb.out _).trans (((cell_far (p := ⟨gb123, _, none⟩) qb.out _).trans (((cell_far (p := ⟨gb123, _, none⟩) qb.out _).trans (hHeld.2.2.2.2.2.2.2.2.2.1)))))))))))), ((cell_far (p := ⟨gb123, _, none⟩) qb.out _).trans (((cell_far (p := ⟨gb123, _, none⟩) qb.out _).trans (((cell_far (p := ⟨gb123, _, none⟩) qb.out _).trans (((cell_far (p := ⟨gb123, _, none⟩) qb.out _).trans (((cell_far (p := ⟨gb123, _, none⟩) qb.out _).trans (((cell_far (p := ⟨gb123, _, none⟩) qb.out _).trans (hHeld.2.2.2.2.2.2.2.2.2.2.1)))))))))))), ((cell_far (p := ⟨gb123, _, none⟩) qb.out _).trans (((cell_far (p := ⟨gb123, _, none⟩) qb.out _).trans (((cell_far (p := ⟨gb123, _, none⟩) qb.out _).trans (((cell_far (p := ⟨gb123, _, none⟩) qb.out _).trans (((cell_far (p := ⟨gb123, _, none⟩) qb.out _).trans (((cell_far (p := ⟨gb123, _, none⟩) qb.out _).trans (hHeld.2.2.2.2.2.2.2.2.2.2.2))))))))))))⟩ (fun hHeld => ?_)
 clear hK K
 refine one_ (i := 3) (N := none) #[true, true, true, true] rfl rfl (by kernel_rfl) (by decide) (fun K hK => ?_)
 have hs14 : w7.cell? ⟨gb124, 0, none⟩ = some (.string (⟨#[]⟩ : ByteArray)) := (blk_cell qs.out 0).trans rfl
 have hfs14 := blk_frozen qs.out 0
 have hns14_0 := ql.out
 have hns14_1 := qj.out
 have hns14_2 := qg.out
 have hms14_0 := qf.out
 have hms14_1 := qe.out
 have hms14_2 := qa.out
 have hs15 : w7.cell? ⟨gb124, 1, none⟩ = some (.int .i64 0) := (blk_cell qs.out 1).trans rfl
 have hfs15 := blk_frozen qs.out 1
 have hns15_0 := ql.out
 have hns15_1 := qj.out
 have hns15_2 := qg.out
 have hms15_0 := qf.out
 have hms15_1 := qe.out
 have hms15_2 := qa.out
 have hs16 : w7.cell? ⟨gb124, 2, none⟩ = some (.string (⟨#[]⟩ : ByteArray)) := (blk_cell qs.out 2).trans rfl
 have hfs16 := blk_frozen qs.out 2
 have hns16_0 := ql.out
 have hns16_1 := qj.out
 have hns16_2 := qg.out
 have hms16_0 := qf.out
 have hms16_1 := qe.out
 have hms16_2 := qa.out
 have hs17 : w7.cell? ⟨gb124, 3, none⟩ = some (.bool false) := (blk_cell qs.out 3).trans rfl
 have hfs17 := blk_frozen qs.out 3
 have hns17_0 := ql.out
 have hns17_1 := qj.out
 have hns17_2 := qg.out
 have hms17_0 := qf.out
 have hms17_1 := qe.out
 have hms17_2 := qa.out
 have hs18 : w7.cell? ⟨gb124, 4, none⟩ = some (.bool false) := (blk_cell qs.out 4).trans rfl
 have hfs18 := blk_frozen qs.out 4
 have hns18_0 := ql.out
 have hns18_1 := qj.out
 have hns18_2 := qg.out
 have hms18_0 := qf.out
 have hms18_1 := qe.out
 have hms18_2 := qa.out
 have hs19 : w7.cell? ⟨gb124, 5, none⟩ = some (.int .i64 0) := (blk_cell qs.out 5).trans rfl
 have hfs19 := blk_frozen qs.out 5
 have hns19_0 := ql.out
 have hns19_1 := qj.out
 have hns19_2 := qg.out
 have hms19_0 := qf.out
 have hms19_1 := qe.out
 have hms19_2 := qa.out
 refine skip_ (w1 := ?_) (by rfl) rfl ?_ ?_
 rotate_left
 ·go_simp
  rfl
 refine hK.out _ _ ⟨((cell_far (p := ⟨gb124, _, none⟩) qj.out _).trans (((cell_far (p := ⟨gb124, _, none⟩) qj.out _).trans (((cell_far (p := ⟨gb124, _, none⟩) qj.out _).trans (((cell_far (p := ⟨gb124, _, none⟩) qj.out _).trans (((cell_far (p := ⟨gb124, _, none⟩) qj.out _).trans (((cell_far (p := ⟨gb124, _, none⟩) qj.out _).trans (hHeld.1)))))))))))), ((cell_far (p := ⟨gb124, _, none⟩) qj.out _).trans (((cell_far (p := ⟨gb124, _, none⟩) qj.out _).trans (((cell_far (p := ⟨gb124, _, none⟩) qj.out _).trans (((cell_far (p := ⟨gb124, _, none⟩) qj.out _).trans (((cell_far (p := ⟨gb124, _, none⟩) qj.out _).trans (((cell_far (p := ⟨gb124, _, none⟩) qj.out _).trans (hHeld.2.1)))))))))))), ((cell_far (p := ⟨gb124, _, none⟩) qj.out _).trans (((cell_far (p := ⟨gb124, _, none⟩) qj.out _).trans (((cell_far (p := ⟨gb124, _, none⟩) qj.out _).trans (((cell_far (p := ⟨gb124, _, none⟩) qj.out _).trans (((cell_far (p := ⟨gb124, _, none⟩) qj.out _).trans (((cell_far (p := ⟨gb124, _, none⟩) qj.out _).trans (hHeld.2.2.1)))))))))))), ((cell_far (p := ⟨gb124, _, none⟩) qj.out _).trans (((cell_far (p := ⟨gb124, _, none⟩) qj.out _).trans (((cell_far (p := ⟨gb124, _, none⟩) qj.out _).trans (((cell_far (p := ⟨gb124, _, none⟩) qj.out _).trans (((cell_far (p := ⟨gb124, _, none⟩) qj.out _).trans (((cell_far (p := ⟨gb124, _, none⟩) qj.out _).trans (hHeld.2.2.2.1)))))))))))), ((cell_far (p := ⟨gb124, _, none⟩) qj.out _).trans (((cell_far (p := ⟨gb124, _, none⟩) qj.out _).trans (((cell_far (p := ⟨gb124, _, none⟩) qj.out _).trans (((cell_far (p := ⟨gb124, _, none⟩) qj.out _).trans (((cell_far (p := ⟨gb124, _, none⟩) qj.out _).trans (((cell_far (p := ⟨gb124, _, none⟩) qj.out _).trans (hHeld.2.2.2.2.1)))))))))))), ((cell_far (p := ⟨gb124, _, none⟩) qj.out _).trans (((cell_far (p := ⟨gb124, _, none⟩) qj.out _).trans (((cell_far (p := ⟨gb124, _, none⟩) qj.out _).trans (((cell_far (p := ⟨gb124, _, none⟩) qj.out _).trans (((cell_far (p := ⟨gb124, _, none⟩) qj.out _).trans (((cell_far (p := ⟨gb124, _, none⟩) qj.out _).trans (hHeld.2.2.2.2.2.1)))))))))))), ((cell_far (p := ⟨gb124, _, none⟩) ql.out _).trans (((cell_far (p := ⟨gb124, _, none⟩) ql.out _).trans (((cell_far (p := ⟨gb124, _, none⟩) ql.out _).trans (((cell_far (p := ⟨gb124, _, none⟩) ql.out _).trans (((cell_far (p := ⟨gb124, _, none⟩) ql.out _).trans (((cell_far (p := ⟨gb124, _, none⟩) ql.out _).trans (hHeld.2.2.2.2.2.2.1)))))))))))), ((cell_far (p := ⟨gb124, _, none⟩) ql.out _).trans (((cell_far (p := ⟨gb124, _, none⟩) ql.out _).trans (((cell_far (p := ⟨gb124, _, none⟩) ql.out _).trans (((cell_far (p := ⟨gb124, _, none⟩) ql.out _).trans (((cell_far (p := ⟨gb124, _, none⟩) ql.out _).trans (((cell_far (p := ⟨gb124, _, none⟩) ql.out _).trans (hHeld.2.2.2.2.2.2.2.1)))))))))))), ((cell_far (p := ⟨gb124, _, none⟩) ql.out _).trans (((cell_far (p := ⟨gb124, _, none⟩) ql.out _).trans (((cell_far (p := ⟨gb124, _, none⟩) ql.out _).trans (((cell_far (p := ⟨gb124, _, none⟩) ql.out _).trans (((cell_far (p := ⟨gb124, _, none⟩) ql.out _).trans (((cell_far (p := ⟨gb124, _, none⟩) ql.out _).trans (hHeld.2.2.2.2.2.2.2.2.1)))))))))))), ((cell_far (p := ⟨gb124, _, none⟩) ql.out _).trans (((cell_far (p := ⟨gb124, _, none⟩) ql.out _).trans (((cell_far (p := ⟨gb124, _, none⟩) ql.out _).trans (((cell_far (p := ⟨gb124, _, none⟩) ql.out _).trans (((cell_far (p := ⟨gb124, _, none⟩) ql.out _).trans (((cell_far (p := ⟨gb124, _, none⟩) ql.out _).trans (hHeld.2.2.2.2.2.2.2.2.2.1)))))))))))), ((cell_far (p := ⟨gb124, _, none⟩) ql.out _).trans (((cell_far (p := ⟨gb124, _, none⟩) ql.out _).trans (((cell_far (p := ⟨gb124, _, none⟩) ql.out _).trans (((cell_far (p := ⟨gb124, _, none⟩) ql.out _).trans (((cell_far (p := ⟨gb124, _, none⟩) ql.out _).trans (((cell_far (p := ⟨gb124, _, none⟩) ql.out _).trans (hHeld.2.2.2.2.2.2.2.2.2.2.1)))))))))))), ((cell_far (p := ⟨gb124, _, none⟩) ql.out _).trans (((cell_far (p := ⟨gb124, _, none⟩) ql.out _).trans (((cell_far (p := ⟨gb124, _, none⟩) ql.out _).trans (((cell_far (p := ⟨gb124, _, none⟩) ql.out _).trans (((cell_far (p := ⟨gb124, _, none⟩) ql.out _).trans (((cell_far (p := ⟨gb124, _, none⟩) ql.out _).trans (hHeld.2.2.2.2.2.2.2.2.2.2.2))))))))))))⟩ (fun hHeld => ?_)
 clear hK K
 refine done_ (by kernel_rfl) ?_
 try go_wp2
 refine bodyPost_ret (results_cc rfl _ _ gb123 gb124 36 36 #[.string a1_0, .int .i64 a1_1, .string a1_2, .bool a1_3, .bool a1_4, .int .i64 a1_5] #[.string a0_0, .int .i64 a0_1, .string a0_2, .bool a0_3, .bool a0_4, .int .i64 a0_5] (0, 0) (0, 0) _ _ rfl (by (with_reducible repeat (first | refine blk_drewN ?_ _ | refine blk_drew ?_ | refine blk_alloc ?_ _)); refine blk_far ?_ qg.out _; (with_reducible repeat (first | refine blk_drewN ?_ _ | refine blk_drew ?_ | refine blk_alloc ?_ _)); refine blk_far ?_ qg.out _; (with_reducible repeat (first | refine blk_drewN ?_ _ | refine blk_drew ?_ | refine blk_alloc ?_ _)); refine blk_far ?_ qg.out _; (with_reducible repeat (first | refine blk_drewN ?_ _ | refine blk_drew ?_ | refine blk_alloc ?_ _)); refine blk_far ?_ qg.out _; (with_reducible repeat (first | refine blk_drewN ?_ _ | refine blk_drew ?_ | refine blk_alloc ?_ _)); refine blk_far ?_ qg.out _; (with_reducible repeat (first | refine blk_drewN ?_ _ | refine blk_drew ?_ | refine blk_alloc ?_ _)); refine blk_far ?_ qg.out _; (with_reducible repeat (first | refine blk_drewN ?_ _ | refine blk_drew ?_ | refine blk_alloc ?_ _)); refine blk_put (cs := #[.string a1_0, .int .i64 a1_1, .string a1_2, .bool a1_3, .bool a1_4, .int .i64 0]) ?_ 5 _ rfl; (with_reducible repeat (first | refine blk_drewN ?_ _ | refine blk_drew ?_ | refine blk_alloc ?_ _)); refine blk_put (cs := #[.string a1_0, .int .i64 a1_1, .string a1_2, .bool a1_3, .bool false, .int .i64 0]) ?_ 4 _ rfl; (with_reducible repeat (first | refine blk_drewN ?_ _ | refine blk_drew ?_ | refine blk_alloc ?_ _)); refine blk_put (cs := #[.string a1_0, .int .i64 a1_1, .string a1_2, .bool false, .bool false, .int .i64 0]) ?_ 3 _ rfl; (with_reducible repeat (first | refine blk_drewN ?_ _ | refine blk_drew ?_ | refine blk_alloc ?_ _)); refine blk_put (cs := #[.string a1_0, .int .i64 a1_1, .string (⟨#[]⟩ : ByteArray), .bool false, .bool false, .int .i64 0]) ?_ 2 _ rfl; (with_reducible repeat (first | refine blk_drewN ?_ _ | refine blk_drew ?_ | refine blk_alloc ?_ _)); refine blk_put (cs := #[.string a1_0, .int .i64 0, .string (⟨#[]⟩ : ByteArray), .bool false, .bool false, .int .i64 0]) ?_ 1 _ rfl; (with_reducible repeat (first | refine blk_drewN ?_ _ | refine blk_drew ?_ | refine blk_alloc ?_ _)); refine blk_put (cs := #[.string (⟨#[]⟩ : ByteArray), .int .i64 0, .string (⟨#[]⟩ : ByteArray), .bool false, .bool false, .int .i64 0]) ?_ 0 _ rfl; (with_reducible repeat (first | refine blk_drewN ?_ _ | refine blk_drew ?_ | refine blk_alloc ?_ _)); exact qv.out) Tryd.underlying36 rfl (by kernel_rfl) rfl (by (with_reducible repeat (first | refine blk_drewN ?_ _ | refine blk_drew ?_ | refine blk_alloc ?_ _)); refine blk_put (cs := #[.string a0_0, .int .i64 a0_1, .string a0_2, .bool a0_3, .bool a0_4, .int .i64 0]) ?_ 5 _ rfl; (with_reducible repeat (first | refine blk_drewN ?_ _ | refine blk_drew ?_ | refine blk_alloc ?_ _)); refine blk_put (cs := #[.string a0_0, .int .i64 a0_1, .string a0_2, .bool a0_3, .bool false, .int .i64 0]) ?_ 4 _ rfl; (with_reducible repeat (first | refine blk_drewN ?_ _ | refine blk_drew ?_ | refine blk_alloc ?_ _)); refine blk_put (cs := #[.string a0_0, .int .i64 a0_1, .string a0_2, .bool false, .bool false, .int .i64 0]) ?_ 3 _ rfl; (with_reducible repeat (first | refine blk_drewN ?_ _ | refine blk_drew ?_ | refine blk_alloc ?_ _)); refine blk_put (cs := #[.string a0_0, .int .i64 a0_1, .string (⟨#[]⟩ : ByteArray), .bool false, .bool false, .int .i64 0]) ?_ 2 _ rfl; (with_reducible repeat (first | refine blk_drewN ?_ _ | refine blk_drew ?_ | refine blk_alloc ?_ _)); refine blk_put (cs := #[.string a0_0, .int .i64 0, .string (⟨#[]⟩ : ByteArray), .bool false, .bool false, .int .i64 0]) ?_ 1 _ rfl; (with_reducible repeat (first | refine blk_drewN ?_ _ | refine blk_drew ?_ | refine blk_alloc ?_ _)); refine blk_put (cs := #[.string (⟨#[]⟩ : ByteArray), .int .i64 0, .string (⟨#[]⟩ : ByteArray), .bool false, .bool false, .int .i64 0]) ?_ 0 _ rfl; (with_reducible repeat (first | refine blk_drewN ?_ _ | refine blk_drew ?_ | refine blk_alloc ?_ _)); refine blk_far ?_ qa.out _; (with_reducible repeat (first | refine blk_drewN ?_ _ | refine blk_drew ?_ | refine blk_alloc ?_ _)); refine blk_far ?_ qa.out _; (with_reducible repeat (first | refine blk_drewN ?_ _ | refine blk_drew ?_ | refine blk_alloc ?_ _)); refine blk_far ?_ qa.out _; (with_reducible repeat (first | refine blk_drewN ?_ _ | refine blk_drew ?_ | refine blk_alloc ?_ _)); refine blk_far ?_ qa.out _; (with_reducible repeat (first | refine blk_drewN ?_ _ | refine blk_drew ?_ | refine blk_alloc ?_ _)); refine blk_far ?_ qa.out _; (with_reducible repeat (first | refine blk_drewN ?_ _ | refine blk_drew ?_ | refine blk_alloc ?_ _)); refine blk_far ?_ qa.out _; (with_reducible repeat (first | refine blk_drewN ?_ _ | refine blk_drew ?_ | refine blk_alloc ?_ _)); exact qs.out) Tryd.underlying36 rfl (by kernel_rfl)) rfl ?_
 exact ⟨by first | rfl | (simp [errW_none, errW_some] <;> rfl) | (simp [*, errW_none, errW_some] <;> rfl) | (simp only [Bool.and_eq_true, beq_iff_eq, Bool.not_eq_true', Bool.not_eq_eq_eq_not, Bool.not_true, Bool.not_false] at *; simp [*]), by repeat (first | (with_reducible first | exact HB.out | apply below_alloc | apply pw_below_drewN | apply below_drew1 | refine below_set ?_ qq.out | refine below_set ?_ qo.out | refine below_set ?_ qp.out | refine below_set ?_ qm.out) | exact HB.out)⟩

end Go.Proofs.YtjeipkfeihahdaaDoor.P
