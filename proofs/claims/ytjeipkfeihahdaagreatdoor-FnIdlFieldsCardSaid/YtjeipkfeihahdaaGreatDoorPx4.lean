-- PRINTED by print.py (a twelfth state) out of the translation. Not trusted: Lean checks it.
import Derived.Test.YtjeipkfeihahdaaGreatDoorPx0
namespace Go.Proofs.YtjeipkfeihahdaaGreatDoor.P
open Go.RowKit Go.Proofs.YtjeipkfeihahdaaGreatDoorW.PrintWords Go.Proofs.YtjeipkfeihahdaaGreatDoorW.PrintLast Go.Proofs.YtjeipkfeihahdaaGreatDoorW.PrintMore
attribute [local go_sem] max2_int min2_int max_two min_two max_three min_three max_four min_four   -- for this text's walks alone
set_option linter.unusedVariables false
set_option linter.unusedSimpArgs false

/-! ### spec_l13Turn: function 61 -/
def spec_l13Turn.f (a0_0 : ByteArray) (a0_1 : Int) (a0_2 : ByteArray) (a0_3 : Bool) (a0_4 : Bool) (a0_5 : Int) (a1_0 : ByteArray) (a1_1 : Int) (a1_2 : ByteArray) (a1_3 : Bool) (a1_4 : Bool) (a1_5 : Int) : Option (ByteArray × Int × ByteArray × Bool × Bool × Int × ByteArray × Int × ByteArray × Bool × Bool × Int) := some (a1_0, a1_1, a1_2, a1_3, a1_4, a1_5, a0_0, a0_1, a0_2, a0_3, a0_4, a0_5)
set_option maxHeartbeats 8000000 in
set_option maxRecDepth 100000 in
theorem spec_l13Turn.calls (a0_0 : ByteArray) (a0_1 : Int) (a0_2 : ByteArray) (a0_3 : Bool) (a0_4 : Bool) (a0_5 : Int) (a1_0 : ByteArray) (a1_1 : Int) (a1_2 : ByteArray) (a1_3 : Bool) (a1_4 : Bool) (a1_5 : Int) (r1 : ByteArray) (r2 : Int) (r3 : ByteArray) (r4 : Bool) (r5 : Bool) (r6 : Int) (r7 : ByteArray) (r8 : Int) (r9 : ByteArray) (r10 : Bool) (r11 : Bool) (r12 : Int) (w : World) (h : spec_l13Turn.f a0_0 a0_1 a0_2 a0_3 a0_4 a0_5 a1_0 a1_1 a1_2 a1_3 a1_4 a1_5 = some (r1, r2, r3, r4, r5, r6, r7, r8, r9, r10, r11, r12)) :
  Calls Tryz.prog 61 #[.agg #[.string a0_0, .int .i64 a0_1, .string a0_2, .bool a0_3, .bool a0_4, .int .i64 a0_5], .agg #[.string a1_0, .int .i64 a1_1, .string a1_2, .bool a1_3, .bool a1_4, .int .i64 a1_5]] w fun e w' => e = .returned (.tuple #[.agg #[.string r1, .int .i64 r2, .string r3, .bool r4, .bool r5, .int .i64 r6], .agg #[.string r7, .int .i64 r8, .string r9, .bool r10, .bool r11, .int .i64 r12]]) ∧ Below w.heap.size w w' := by
 have hu46 := Tryz.underlying46
 have HB := Aside0.mk (Below.refl w.heap.size w)
 have H : (some (a1_0, a1_1, a1_2, a1_3, a1_4, a1_5, a0_0, a0_1, a0_2, a0_3, a0_4, a0_5)) = some (r1, r2, r3, r4, r5, r6, r7, r8, r9, r10, r11, r12) := h
 clear h
 simp only [Option.some.injEq, Prod.mk.injEq] at H
 obtain ⟨rfl, rfl, rfl, rfl, rfl, rfl, rfl, rfl, rfl, rfl, rfl, rfl⟩ := H
 go_enter Tryz.func61, Tryz.ntmps61
 try go_wp2_with (first | ((with_reducible refine gate_dst (N := 2) rfl ?_); refine box_event ?hg (N := 2) ?hd (cs := #[.string a0_0, .int .i64 a0_1, .string a0_2, .bool a0_3, .bool a0_4, .int .i64 a0_5]) (t := 46) ?hr ?_; (case hd => rfl); (case hg => rfl); (case hr => first | (go_simp; done) | (go_simp; rfl)); intro gb121 hg w3 hbox hb; have n0_ := Aside0.mk (below_step (by repeat (first | (with_reducible first | exact HB.out | apply below_alloc | apply pw_below_drewN | apply below_drew1) | exact HB.out)) hb); have n1_ := Aside0.mk (hbox); have n2_ := Aside0.mk ((by rw [hg]; exact (below_size (by repeat (first | (with_reducible first | exact HB.out | apply below_alloc | apply pw_below_drewN | apply below_drew1) | exact HB.out))) : w.heap.size ≤ gb121)); have n3_ := Aside0.mk ((by rw [hg]; exact (below_size (by repeat (first | (with_reducible first | exact HB.out | apply below_alloc | apply pw_below_drewN | apply below_drew1) | exact HB.out))) : w.heap.size ≤ gb121)); clear HB; have HB := n0_; have qm := n1_; have qu := n2_; have qx := n3_; clear n0_ n1_ n2_ n3_; clear hb hbox hg) | ((with_reducible refine gate_dst (N := 3) rfl ?_); refine box_event ?hg (N := 3) ?hd (cs := #[.string a1_0, .int .i64 a1_1, .string a1_2, .bool a1_3, .bool a1_4, .int .i64 a1_5]) (t := 46) ?hr ?_; (case hd => rfl); (case hg => rfl); (case hr => first | (go_simp; done) | (go_simp; rfl)); intro gb122 hg w4 hbox hb; have n0_ := Aside0.mk (blk_below (g := gb121) (o := .cells #[.string a0_0, .int .i64 a0_1, .string a0_2, .bool a0_3, .bool a0_4, .int .i64 a0_5] 46 (0, 0)) (by (with_reducible repeat (first | refine blk_drewN ?_ _ | refine blk_drew ?_ | refine blk_alloc ?_ _)); exact qm.out) hb); have n1_ := Aside0.mk (below_step (by repeat (first | (with_reducible first | exact HB.out | apply below_alloc | apply pw_below_drewN | apply below_drew1 | refine below_set ?_ qx.out) | exact HB.out)) hb); have n2_ := Aside0.mk (hbox); have n3_ := Aside0.mk ((by rw [hg]; exact (below_size (by repeat (first | (with_reducible first | exact HB.out | apply below_alloc | apply pw_below_drewN | apply below_drew1 | refine below_set ?_ qx.out) | exact HB.out))) : w.heap.size ≤ gb122)); have n4_ := Aside0.mk ((by rw [hg]; exact (below_size (by repeat (first | (with_reducible first | exact HB.out | apply below_alloc | apply pw_below_drewN | apply below_drew1 | refine below_set ?_ qx.out) | exact HB.out))) : w.heap.size ≤ gb122)); have n5_ := Aside0.mk ((by rw [hg]; exact Nat.ne_of_lt (blk_lt (g := gb121) (o := .cells #[.string a0_0, .int .i64 a0_1, .string a0_2, .bool a0_3, .bool a0_4, .int .i64 a0_5] 46 (0, 0)) (by (with_reducible repeat (first | refine blk_drewN ?_ _ | refine blk_drew ?_ | refine blk_alloc ?_ _)); exact qm.out)) : gb121 ≠ gb122)); have n6_ := Aside0.mk ((by rw [hg]; exact Nat.ne_of_gt (blk_lt (g := gb121) (o := .cells #[.string a0_0, .int .i64 a0_1, .string a0_2, .bool a0_3, .bool a0_4, .int .i64 a0_5] 46 (0, 0)) (by (with_reducible repeat (first | refine blk_drewN ?_ _ | refine blk_drew ?_ | refine blk_alloc ?_ _)); exact qm.out)) : gb122 ≠ gb121)); clear qm; clear HB; have qm := n0_; have HB := n1_; have qr := n2_; have qn := n3_; have qp := n4_; have qe := n5_; have qj := n6_; clear n0_ n1_ n2_ n3_ n4_ n5_ n6_; clear hb hbox hg) | ((with_reducible refine gate_dst (N := 4) rfl ?_); refine box_event ?hg (N := 4) ?hd (cs := #[.string (⟨#[]⟩ : ByteArray), .int .i64 0, .string (⟨#[]⟩ : ByteArray), .bool false, .bool false, .int .i64 0]) (t := 46) ?hr ?_; (case hd => rfl); (case hg => rfl); (case hr => first | (go_simp; done) | (go_simp; rfl)); intro gb123 hg w5 hbox hb; have n0_ := Aside0.mk (blk_below (g := gb121) (o := .cells #[.string a0_0, .int .i64 a0_1, .string a0_2, .bool a0_3, .bool a0_4, .int .i64 a0_5] 46 (0, 0)) (by (with_reducible repeat (first | refine blk_drewN ?_ _ | refine blk_drew ?_ | refine blk_alloc ?_ _)); exact qm.out) hb); have n1_ := Aside0.mk (blk_below (g := gb122) (o := .cells #[.string a1_0, .int .i64 a1_1, .string a1_2, .bool a1_3, .bool a1_4, .int .i64 a1_5] 46 (0, 0)) (by (with_reducible repeat (first | refine blk_drewN ?_ _ | refine blk_drew ?_ | refine blk_alloc ?_ _)); exact qr.out) hb); have n2_ := Aside0.mk (below_step (by repeat (first | (with_reducible first | exact HB.out | apply below_alloc | apply pw_below_drewN | apply below_drew1 | refine below_set ?_ qx.out | refine below_set ?_ qp.out) | exact HB.out)) hb); have n3_ := Aside0.mk (hbox); have n4_ := Aside0.mk ((by rw [hg]; exact (below_size (by repeat (first | (with_reducible first | exact HB.out | apply below_alloc | apply pw_below_drewN | apply below_drew1 | refine below_set ?_ qx.out | refine below_set ?_ qp.out) | exact HB.out))) : w.heap.size ≤ gb123)); have n5_ := Aside0.mk ((by rw [hg]; exact (below_size (by repeat (first | (with_reducible first | exact HB.out | apply below_alloc | apply pw_below_drewN | apply below_drew1 | refine below_set ?_ qx.out | refine below_set ?_ qp.out) | exact HB.out))) : w.heap.size ≤ gb123)); have n6_ := Aside0.mk ((by rw [hg]; exact Nat.ne_of_lt (blk_lt (g := gb121) (o := .cells #[.string a0_0, .int .i64 a0_1, .string a0_2, .bool a0_3, .bool a0_4, .int .i64 a0_5] 46 (0, 0)) (by (with_reducible repeat (first | refine blk_drewN ?_ _ | refine blk_drew ?_ | refine blk_alloc ?_ _)); exact qm.out)) : gb121 ≠ gb123)); have n7_ := Aside0.mk ((by rw [hg]; exact Nat.ne_of_gt (blk_lt (g := gb121) (o := .cells #[.string a0_0, .int .i64 a0_1, .string a0_2, .bool a0_3, .bool a0_4, .int .i64 a0_5] 46 (0, 0)) (by (with_reducible repeat (first | refine blk_drewN ?_ _ | refine blk_drew ?_ | refine blk_alloc ?_ _)); exact qm.out)) : gb123 ≠ gb121)); have n8_ := Aside0.mk ((by rw [hg]; exact Nat.ne_of_lt (blk_lt (g := gb122) (o := .cells #[.string a1_0, .int .i64 a1_1, .string a1_2, .bool a1_3, .bool a1_4, .int .i64 a1_5] 46 (0, 0)) (by (with_reducible repeat (first | refine blk_drewN ?_ _ | refine blk_drew ?_ | refine blk_alloc ?_ _)); exact qr.out)) : gb122 ≠ gb123)); have n9_ := Aside0.mk ((by rw [hg]; exact Nat.ne_of_gt (blk_lt (g := gb122) (o := .cells #[.string a1_0, .int .i64 a1_1, .string a1_2, .bool a1_3, .bool a1_4, .int .i64 a1_5] 46 (0, 0)) (by (with_reducible repeat (first | refine blk_drewN ?_ _ | refine blk_drew ?_ | refine blk_alloc ?_ _)); exact qr.out)) : gb123 ≠ gb122)); clear qm; clear qr; clear HB; have qm := n0_; have qr := n1_; have HB := n2_; have qw := n3_; have qs := n4_; have qt := n5_; have qh := n6_; have qd := n7_; have qb := n8_; have qk := n9_; clear n0_ n1_ n2_ n3_ n4_ n5_ n6_ n7_ n8_ n9_; clear hb hbox hg) | ((with_reducible refine gate_dst (N := 5) rfl ?_); refine box_event ?hg (N := 5) ?hd (cs := #[.string (⟨#[]⟩ : ByteArray), .int .i64 0, .string (⟨#[]⟩ : ByteArray), .bool false, .bool false, .int .i64 0]) (t := 46) ?hr ?_; (case hd => rfl); (case hg => rfl); (case hr => first | (go_simp; done) | (go_simp; rfl)); intro gb124 hg w6 hbox hb; have n0_ := Aside0.mk (blk_below (g := gb121) (o := .cells #[.string a0_0, .int .i64 a0_1, .string a0_2, .bool a0_3, .bool a0_4, .int .i64 a0_5] 46 (0, 0)) (by (with_reducible repeat (first | refine blk_drewN ?_ _ | refine blk_drew ?_ | refine blk_alloc ?_ _)); exact qm.out) hb); have n1_ := Aside0.mk (blk_below (g := gb122) (o := .cells #[.string a1_0, .int .i64 a1_1, .string a1_2, .bool a1_3, .bool a1_4, .int .i64 a1_5] 46 (0, 0)) (by (with_reducible repeat (first | refine blk_drewN ?_ _ | refine blk_drew ?_ | refine blk_alloc ?_ _)); exact qr.out) hb); have n2_ := Aside0.mk (blk_below (g := gb123) (o := .cells #[.string (⟨#[]⟩ : ByteArray), .int .i64 0, .string (⟨#[]⟩ : ByteArray), .bool false, .bool false, .int .i64 0] 46 (0, 0)) (by (with_reducible repeat (first | refine blk_drewN ?_ _ | refine blk_drew ?_ | refine blk_alloc ?_ _)); exact qw.out) hb); have n3_ := Aside0.mk (below_step (by repeat (first | (with_reducible first | exact HB.out | apply below_alloc | apply pw_below_drewN | apply below_drew1 | refine below_set ?_ qx.out | refine below_set ?_ qp.out | refine below_set ?_ qt.out) | exact HB.out)) hb); have n4_ := Aside0.mk (hbox); have n5_ := Aside0.mk ((by rw [hg]; exact (below_size (by repeat (first | (with_reducible first | exact HB.out | apply below_alloc | apply pw_below_drewN | apply below_drew1 | refine below_set ?_ qx.out | refine below_set ?_ qp.out | refine below_set ?_ qt.out) | exact HB.out))) : w.heap.size ≤ gb124)); have n6_ := Aside0.mk ((by rw [hg]; exact (below_size (by repeat (first | (with_reducible first | exact HB.out | apply below_alloc | apply pw_below_drewN | apply below_drew1 | refine below_set ?_ qx.out | refine below_set ?_ qp.out | refine below_set ?_ qt.out) | exact HB.out))) : w.heap.size ≤ gb124)); have n7_ := Aside0.mk ((by rw [hg]; exact Nat.ne_of_lt (blk_lt (g := gb121) (o := .cells #[.string a0_0, .int .i64 a0_1, .string a0_2, .bool a0_3, .bool a0_4, .int .i64 a0_5] 46 (0, 0)) (by (with_reducible repeat (first | refine blk_drewN ?_ _ | refine blk_drew ?_ | refine blk_alloc ?_ _)); exact qm.out)) : gb121 ≠ gb124)); have n8_ := Aside0.mk ((by rw [hg]; exact Nat.ne_of_gt (blk_lt (g := gb121) (o := .cells #[.string a0_0, .int .i64 a0_1, .string a0_2, .bool a0_3, .bool a0_4, .int .i64 a0_5] 46 (0, 0)) (by (with_reducible repeat (first | refine blk_drewN ?_ _ | refine blk_drew ?_ | refine blk_alloc ?_ _)); exact qm.out)) : gb124 ≠ gb121)); have n9_ := Aside0.mk ((by rw [hg]; exact Nat.ne_of_lt (blk_lt (g := gb122) (o := .cells #[.string a1_0, .int .i64 a1_1, .string a1_2, .bool a1_3, .bool a1_4, .int .i64 a1_5] 46 (0, 0)) (by (with_reducible repeat (first | refine blk_drewN ?_ _ | refine blk_drew ?_ | refine blk_alloc ?_ _)); exact qr.out)) : gb122 ≠ gb124)); have n10_ := Aside0.mk ((by rw [hg]; exact Nat.ne_of_gt (blk_lt (g := gb122) (o := .cells #[.string a1_0, .int .i64 a1_1, .string a1_2, .bool a1_3, .bool a1_4, .int .i64 a1_5] 46 (0, 0)) (by (with_reducible repeat (first | refine blk_drewN ?_ _ | refine blk_drew ?_ | refine blk_alloc ?_ _)); exact qr.out)) : gb124 ≠ gb122)); have n11_ := Aside0.mk ((by rw [hg]; exact Nat.ne_of_lt (blk_lt (g := gb123) (o := .cells #[.string (⟨#[]⟩ : ByteArray), .int .i64 0, .string (⟨#[]⟩ : ByteArray), .bool false, .bool false, .int .i64 0] 46 (0, 0)) (by (with_reducible repeat (first | refine blk_drewN ?_ _ | refine blk_drew ?_ | refine blk_alloc ?_ _)); exact qw.out)) : gb123 ≠ gb124)); have n12_ := Aside0.mk ((by rw [hg]; exact Nat.ne_of_gt (blk_lt (g := gb123) (o := .cells #[.string (⟨#[]⟩ : ByteArray), .int .i64 0, .string (⟨#[]⟩ : ByteArray), .bool false, .bool false, .int .i64 0] 46 (0, 0)) (by (with_reducible repeat (first | refine blk_drewN ?_ _ | refine blk_drew ?_ | refine blk_alloc ?_ _)); exact qw.out)) : gb124 ≠ gb123)); clear qm; clear qr; clear qw; clear HB; have qm := n0_; have qr := n1_; have qw := n2_; have HB := n3_; have qv := n4_; have qo := n5_; have qq := n6_; have qc := n7_; have qg := n8_; have ql := n9_; have qa := n10_; have qf := n11_; have qi := n12_; clear n0_ n1_ n2_ n3_ n4_ n5_ n6_ n7_ n8_ n9_ n10_ n11_ n12_; clear hb hbox hg))
 have n0_ := Aside0.mk (blk_drew qm.out)
 have n1_ := Aside0.mk (blk_drew qr.out)
 have n2_ := Aside0.mk (blk_drew qw.out)
 have n3_ := Aside0.mk (blk_drew qv.out)
 have n4_ := Aside0.mk (below_drew1 HB.out)
 clear qm
 clear qr
 clear qw
 clear qv
 clear HB
 have qm := n0_
 have qr := n1_
 have qw := n2_
 have qv := n3_
 have HB := n4_
 clear n0_ n1_ n2_ n3_ n4_
 refine start_ (n := 4) (S := fun w' => w'.cell? ⟨gb122, 0, none⟩ = some (.string a1_0) ∧ w'.cell? ⟨gb122, 1, none⟩ = some (.int .i64 a1_1) ∧ w'.cell? ⟨gb122, 2, none⟩ = some (.string a1_2) ∧ w'.cell? ⟨gb122, 3, none⟩ = some (.bool a1_3) ∧ w'.cell? ⟨gb122, 4, none⟩ = some (.bool a1_4) ∧ w'.cell? ⟨gb122, 5, none⟩ = some (.int .i64 a1_5) ∧ w'.cell? ⟨gb121, 0, none⟩ = some (.string a0_0) ∧ w'.cell? ⟨gb121, 1, none⟩ = some (.int .i64 a0_1) ∧ w'.cell? ⟨gb121, 2, none⟩ = some (.string a0_2) ∧ w'.cell? ⟨gb121, 3, none⟩ = some (.bool a0_3) ∧ w'.cell? ⟨gb121, 4, none⟩ = some (.bool a0_4) ∧ w'.cell? ⟨gb121, 5, none⟩ = some (.int .i64 a0_5)) (ds := []) #[false, false, false, false] (by kernel_rfl) rfl rfl ⟨(blk_cell qr.out 0).trans rfl, (blk_cell qr.out 1).trans rfl, (blk_cell qr.out 2).trans rfl, (blk_cell qr.out 3).trans rfl, (blk_cell qr.out 4).trans rfl, (blk_cell qr.out 5).trans rfl, (blk_cell qm.out 0).trans rfl, (blk_cell qm.out 1).trans rfl, (blk_cell qm.out 2).trans rfl, (blk_cell qm.out 3).trans rfl, (blk_cell qm.out 4).trans rfl, (blk_cell qm.out 5).trans rfl⟩ (fun hHeld => ?_)
 generalize w6.drew = w7 at qm qr qw qv HB hHeld ⊢
 refine take_ (i := 0) (N := some 6) (v := ?_) (a' := ?_) #[true, false, false, false] rfl rfl (by kernel_rfl) (fun _ _ _ h => h) (Or.inl ⟨by rfl, ?_⟩) hHeld ?_ ?_
 rotate_left
 ·rintro w' ⟨s0, s1, s2, s3, s4, s5, s6, s7, s8, s9, s10, s11⟩
  go_simp
  with_reducible rfl
 rotate_left
 ·simp only [Act.put, List.setIfInBounds_toArray, List.set_cons_zero, List.set_cons_succ, i64_w, i32_w]
  rfl
 refine take_ (i := 1) (N := some 7) (v := ?_) (a' := ?_) #[true, true, false, false] rfl rfl (by kernel_rfl) (fun _ _ _ h => h) (Or.inl ⟨by rfl, ?_⟩) hHeld ?_ ?_
 rotate_left
 ·rintro w' ⟨s0, s1, s2, s3, s4, s5, s6, s7, s8, s9, s10, s11⟩
  go_simp
  with_reducible rfl
 rotate_left
 ·simp only [Act.put, List.setIfInBounds_toArray, List.set_cons_zero, List.set_cons_succ, i64_w, i32_w]
  rfl
 refine one_ (i := 2) (N := none) #[true, true, true, false] rfl rfl (by kernel_rfl) (by decide) (fun K hK => ?_)
 have hs8 : w7.cell? ⟨gb123, 0, none⟩ = some (.string (⟨#[]⟩ : ByteArray)) := (blk_cell qw.out 0).trans rfl
 have hfs8 := blk_frozen qw.out 0
 have hns8_0 := qh.out
 have hns8_1 := qb.out
 have hns8_3 := qi.out
 have hms8_0 := qd.out
 have hms8_1 := qk.out
 have hms8_3 := qf.out
 have hs9 : w7.cell? ⟨gb123, 1, none⟩ = some (.int .i64 0) := (blk_cell qw.out 1).trans rfl
 have hfs9 := blk_frozen qw.out 1
 have hns9_0 := qh.out
 have hns9_1 := qb.out
 have hns9_3 := qi.out
 have hms9_0 := qd.out
 have hms9_1 := qk.out
 have hms9_3 := qf.out
 have hs10 : w7.cell? ⟨gb123, 2, none⟩ = some (.string (⟨#[]⟩ : ByteArray)) := (blk_cell qw.out 2).trans rfl
 have hfs10 := blk_frozen qw.out 2
 have hns10_0 := qh.out
 have hns10_1 := qb.out
 have hns10_3 := qi.out
 have hms10_0 := qd.out
 have hms10_1 := qk.out
 have hms10_3 := qf.out
 have hs11 : w7.cell? ⟨gb123, 3, none⟩ = some (.bool false) := (blk_cell qw.out 3).trans rfl
 have hfs11 := blk_frozen qw.out 3
 have hns11_0 := qh.out
 have hns11_1 := qb.out
 have hns11_3 := qi.out
 have hms11_0 := qd.out
 have hms11_1 := qk.out
 have hms11_3 := qf.out
 have hs12 : w7.cell? ⟨gb123, 4, none⟩ = some (.bool false) := (blk_cell qw.out 4).trans rfl
 have hfs12 := blk_frozen qw.out 4
 have hns12_0 := qh.out
 have hns12_1 := qb.out
 have hns12_3 := qi.out
 have hms12_0 := qd.out
 have hms12_1 := qk.out
 have hms12_3 := qf.out
 have hs13 : w7.cell? ⟨gb123, 5, none⟩ = some (.int .i64 0) := (blk_cell qw.out 5).trans rfl
 have hfs13 := blk_frozen qw.out 5
 have hns13_0 := qh.out
 have hns13_1 := qb.out
 have hns13_3 := qi.out
 have hms13_0 := qd.out
 have hms13_1 := qk.out
 have hms13_3 := qf.out
 refine skip_ (w1 := ?_) (by rfl) rfl ?_ ?_
 rotate_left
 ·go_simp
  rfl
 refine hK.out _ _ ⟨((cell_far (p := ⟨gb123, _, none⟩) qb.out _).trans (((cell_far (p := ⟨gb123, _, none⟩) qb.out _).trans (((cell_far (p := ⟨gb123, _, none⟩) qb.out _).trans (((cell_far (p := ⟨gb123, _, none⟩) qb.out _).trans (((cell_far (p := ⟨gb123, _, none⟩) qb.out _).trans (((cell_far (p := ⟨gb123, _, none⟩) qb.out _).trans (hHeld.1)))))))))))), ((cell_far (p := ⟨gb123, _, none⟩) qb.out _).trans (((cell_far (p := ⟨gb123, _, none⟩) qb.out _).trans (((cell_far (p := ⟨gb123, _, none⟩) qb.out _).trans (((cell_far (p := ⟨gb123, _, none⟩) qb.out _).trans (((cell_far (p := ⟨gb123, _, none⟩) qb.out _).trans (((cell_far (p := ⟨gb123, _, none⟩) qb.out _).trans (hHeld.2.1)))))))))))), ((cell_far (p := ⟨gb123, _, none⟩) qb.out _).trans (((cell_far (p := ⟨gb123, _, none⟩) qb.out _).trans (((cell_far (p := ⟨gb123, _, none⟩) qb.out _).trans (((cell_far (p := ⟨gb123, _, none⟩) qb.out _).trans (((cell_far (p := ⟨gb123, _, none⟩) qb.out _).trans (((cell_far (p := ⟨gb123, _, none⟩) qb.out _).trans (hHeld.2.2.1)))))))))))), ((cell_far (p := ⟨gb123, _, none⟩) qb.out _).trans (((cell_far (p := ⟨gb123, _, none⟩) qb.out _).trans (((cell_far (p := ⟨gb123, _, none⟩) qb.out _).trans (((cell_far (p := ⟨gb123, _, none⟩) qb.out _).trans (((cell_far (p := ⟨gb123, _, none⟩) qb.out _).trans (((cell_far (p := ⟨gb123, _, none⟩) qb.out _).trans (hHeld.2.2.2.1)))))))))))), ((cell_far (p := ⟨gb123, _, none⟩) qb.out _).trans (((cell_far (p := ⟨gb123, _, none⟩) qb.out _).trans (((cell_far (p := ⟨gb123, _, none⟩) qb.out _).trans (((cell_far (p := ⟨gb123, _, none⟩) qb.out _).trans (((cell_far (p := ⟨gb123, _, none⟩) qb.out _).trans (((cell_far (p := ⟨gb123, _, none⟩) qb.out _).trans (hHeld.2.2.2.2.1)))))))))))), ((cell_far (p := ⟨gb123, _, none⟩) qb.out _).trans (((cell_far (p := ⟨gb123, _, none⟩) qb.out _).trans (((cell_far (p := ⟨gb123, _, none⟩) qb.out _).trans (((cell_far (p := ⟨gb123, _, none⟩) qb.out _).trans (((cell_far (p := ⟨gb123, _, none⟩) qb.out _).trans (((cell_far (p := ⟨gb123, _, none⟩) qb.out _).trans (hHeld.2.2.2.2.2.1)))))))))))), ((cell_far (p := ⟨gb123, _, none⟩) qh.out _).trans (((cell_far (p := ⟨gb123, _, none⟩) qh.out _).trans (((cell_far (p := ⟨gb123, _, none⟩) qh.out _).trans (((cell_far (p := ⟨gb123, _, none⟩) qh.out _).trans (((cell_far (p := ⟨gb123, _, none⟩) qh.out _).trans (((cell_far (p := ⟨gb123, _, none⟩) qh.out _).trans (hHeld.2.2.2.2.2.2.1)))))))))))), ((cell_far (p := ⟨gb123, _, none⟩) qh.out _).trans (((cell_far (p := ⟨gb123, _, none⟩) qh.out _).trans (((cell_far (p := ⟨gb123, _, none⟩) qh.out _).trans (((cell_far (p := ⟨gb123, _, none⟩) qh.out _).trans (((cell_far (p := ⟨gb123, _, none⟩) qh.out _).trans (((cell_far (p := ⟨gb123, _, none⟩) qh.out _).trans (hHeld.2.2.2.2.2.2.2.1)))))))))))), ((cell_far (p := ⟨gb123, _, none⟩) qh.out _).trans (((cell_far (p := ⟨gb123, _, none⟩) qh.out _).trans (((cell_far (p := ⟨gb123, _, none⟩) qh.out _).trans (((cell_far (p := ⟨gb123, _, none⟩) qh.out _).trans (((cell_far (p := ⟨gb123, _, none⟩) qh.out _).trans (((cell_far (p := ⟨gb123, _, none⟩) qh.out _).trans (hHeld.2.2.2.2.2.2.2.2.1)))))))))))), ((cell_far (p := ⟨gb123, _, none⟩) qh.out _).trans (((cell_far (p := ⟨gb123, _, none⟩) qh.out _).trans (((cell_far (p := ⟨gb123, _, none⟩) qh.out _).trans (((cell_far (p := ⟨gb123, _, none⟩) qh.out _).trans (((cell_far (p := ⟨gb123, _, none⟩) qh.out _).trans (((cell_far (p := ⟨gb123, _, none⟩) qh.out _).trans (hHeld.2.2.2.2.2.2.2.2.2.1)))))))))))), ((cell_far (p := ⟨gb123, _, none⟩) qh.out _).trans (((cell_far (p := ⟨gb123, _, none⟩) qh.out _).trans (((cell_far (p := ⟨gb123, _, none⟩) qh.out _).trans (((cell_far (p := ⟨gb123, _, none⟩) qh.out _).trans (((cell_far (p := ⟨gb123, _, none⟩) qh.out _).trans (((cell_far (p := ⟨gb123, _, none⟩) qh.out _).trans (hHeld.2.2.2.2.2.2.2.2.2.2.1)))))))))))), ((cell_far (p := ⟨gb123, _, none⟩) qh.out _).trans (((cell_far (p := ⟨gb123, _, none⟩) qh.out _).trans (((cell_far (p := ⟨gb123, _, none⟩) qh.out _).trans (((cell_far (p := ⟨gb123, _, none⟩) qh.out _).trans (((cell_far (p := ⟨gb123, _, none⟩) qh.out _).trans (((cell_far (p := ⟨gb123, _, none⟩) qh.out _).trans (hHeld.2.2.2.2.2.2.2.2.2.2.2))))))))))))⟩ (fun hHeld => ?_)
 clear hK K
 refine one_ (i := 3) (N := none) #[true, true, true, true] rfl rfl (by kernel_rfl) (by decide) (fun K hK => ?_)
 have hs14 : w7.cell? ⟨gb124, 0, none⟩ = some (.string (⟨#[]⟩ : ByteArray)) := (blk_cell qv.out 0).trans rfl
 have hfs14 := blk_frozen qv.out 0
 have hns14_0 := qc.out
 have hns14_1 := ql.out
 have hns14_2 := qf.out
 have hms14_0 := qg.out
 have hms14_1 := qa.out
 have hms14_2 := qi.out
 have hs15 : w7.cell? ⟨gb124, 1, none⟩ = some (.int .i64 0) := (blk_cell qv.out 1).trans rfl
 have hfs15 := blk_frozen qv.out 1
 have hns15_0 := qc.out
 have hns15_1 := ql.out
 have hns15_2 := qf.out
 have hms15_0 := qg.out
 have hms15_1 := qa.out
 have hms15_2 := qi.out
 have hs16 : w7.cell? ⟨gb124, 2, none⟩ = some (.string (⟨#[]⟩ : ByteArray)) := (blk_cell qv.out 2).trans rfl
 have hfs16 := blk_frozen qv.out 2
 have hns16_0 := qc.out
 have hns16_1 := ql.out
 have hns16_2 := qf.out
 have hms16_0 := qg.out
 have hms16_1 := qa.out
 have hms16_2 := qi.out
 have hs17 : w7.cell? ⟨gb124, 3, none⟩ = some (.bool false) := (blk_cell qv.out 3).trans rfl
 have hfs17 := blk_frozen qv.out 3
 have hns17_0 := qc.out
 have hns17_1 := ql.out
 have hns17_2 := qf.out
 have hms17_0 := qg.out
 have hms17_1 := qa.out
 have hms17_2 := qi.out
 have hs18 : w7.cell? ⟨gb124, 4, none⟩ = some (.bool false) := (blk_cell qv.out 4).trans rfl
 have hfs18 := blk_frozen qv.out 4
 have hns18_0 := qc.out
 have hns18_1 := ql.out
 have hns18_2 := qf.out
 have hms18_0 := qg.out
 have hms18_1 := qa.out
 have hms18_2 := qi.out
 have hs19 : w7.cell? ⟨gb124, 5, none⟩ = some (.int .i64 0) := (blk_cell qv.out 5).trans rfl
 have hfs19 := blk_frozen qv.out 5
 have hns19_0 := qc.out
 have hns19_1 := ql.out
 have hns19_2 := qf.out
 have hms19_0 := qg.out
 have hms19_1 := qa.out
 have hms19_2 := qi.out
 refine skip_ (w1 := ?_) (by rfl) rfl ?_ ?_
 rotate_left
 ·go_simp
  rfl
 refine hK.out _ _ ⟨((cell_far (p := ⟨gb124, _, none⟩) ql.out _).trans (((cell_far (p := ⟨gb124, _, none⟩) ql.out _).trans (((cell_far (p := ⟨gb124, _, none⟩) ql.out _).trans (((cell_far (p := ⟨gb124, _, none⟩) ql.out _).trans (((cell_far (p := ⟨gb124, _, none⟩) ql.out _).trans (((cell_far (p := ⟨gb124, _, none⟩) ql.out _).trans (hHeld.1)))))))))))), ((cell_far (p := ⟨gb124, _, none⟩) ql.out _).trans (((cell_far (p := ⟨gb124, _, none⟩) ql.out _).trans (((cell_far (p := ⟨gb124, _, none⟩) ql.out _).trans (((cell_far (p := ⟨gb124, _, none⟩) ql.out _).trans (((cell_far (p := ⟨gb124, _, none⟩) ql.out _).trans (((cell_far (p := ⟨gb124, _, none⟩) ql.out _).trans (hHeld.2.1)))))))))))), ((cell_far (p := ⟨gb124, _, none⟩) ql.out _).trans (((cell_far (p := ⟨gb124, _, none⟩) ql.out _).trans (((cell_far (p := ⟨gb124, _, none⟩) ql.out _).trans (((cell_far (p := ⟨gb124, _, none⟩) ql.out _).trans (((cell_far (p := ⟨gb124, _, none⟩) ql.out _).trans (((cell_far (p := ⟨gb124, _, none⟩) ql.out _).trans (hHeld.2.2.1)))))))))))), ((cell_far (p := ⟨gb124, _, none⟩) ql.out _).trans (((cell_far (p := ⟨gb124, _, none⟩) ql.out _).trans (((cell_far (p := ⟨gb124, _, none⟩) ql.out _).trans (((cell_far (p := ⟨gb124, _, none⟩) ql.out _).trans (((cell_far (p := ⟨gb124, _, none⟩) ql.out _).trans (((cell_far (p := ⟨gb124, _, none⟩) ql.out _).trans (hHeld.2.2.2.1)))))))))))), ((cell_far (p := ⟨gb124, _, none⟩) ql.out _).trans (((cell_far (p := ⟨gb124, _, none⟩) ql.out _).trans (((cell_far (p := ⟨gb124, _, none⟩) ql.out _).trans (((cell_far (p := ⟨gb124, _, none⟩) ql.out _).trans (((cell_far (p := ⟨gb124, _, none⟩) ql.out _).trans (((cell_far (p := ⟨gb124, _, none⟩) ql.out _).trans (hHeld.2.2.2.2.1)))))))))))), ((cell_far (p := ⟨gb124, _, none⟩) ql.out _).trans (((cell_far (p := ⟨gb124, _, none⟩) ql.out _).trans (((cell_far (p := ⟨gb124, _, none⟩) ql.out _).trans (((cell_far (p := ⟨gb124, _, none⟩) ql.out _).trans (((cell_far (p := ⟨gb124, _, none⟩) ql.out _).trans (((cell_far (p := ⟨gb124, _, none⟩) ql.out _).trans (hHeld.2.2.2.2.2.1)))))))))))), ((cell_far (p := ⟨gb124, _, none⟩) qc.out _).trans (((cell_far (p := ⟨gb124, _, none⟩) qc.out _).trans (((cell_far (p := ⟨gb124, _, none⟩) qc.out _).trans (((cell_far (p := ⟨gb124, _, none⟩) qc.out _).trans (((cell_far (p := ⟨gb124, _, none⟩) qc.out _).trans (((cell_far (p := ⟨gb124, _, none⟩) qc.out _).trans (hHeld.2.2.2.2.2.2.1)))))))))))), ((cell_far (p := ⟨gb124, _, none⟩) qc.out _).trans (((cell_far (p := ⟨gb124, _, none⟩) qc.out _).trans (((cell_far (p := ⟨gb124, _, none⟩) qc.out _).trans (((cell_far (p := ⟨gb124, _, none⟩) qc.out _).trans (((cell_far (p := ⟨gb124, _, none⟩) qc.out _).trans (((cell_far (p := ⟨gb124, _, none⟩) qc.out _).trans (hHeld.2.2.2.2.2.2.2.1)))))))))))), ((cell_far (p := ⟨gb124, _, none⟩) qc.out _).trans (((cell_far (p := ⟨gb124, _, none⟩) qc.out _).trans (((cell_far (p := ⟨gb124, _, none⟩) qc.out _).trans (((cell_far (p := ⟨gb124, _, none⟩) qc.out _).trans (((cell_far (p := ⟨gb124, _, none⟩) qc.out _).trans (((cell_far (p := ⟨gb124, _, none⟩) qc.out _).trans (hHeld.2.2.2.2.2.2.2.2.1)))))))))))), ((cell_far (p := ⟨gb124, _, none⟩) qc.out _).trans (((cell_far (p := ⟨gb124, _, none⟩) qc.out _).trans (((cell_far (p := ⟨gb124, _, none⟩) qc.out _).trans (((cell_far (p := ⟨gb124, _, none⟩) qc.out _).trans (((cell_far (p := ⟨gb124, _, none⟩) qc.out _).trans (((cell_far (p := ⟨gb124, _, none⟩) qc.out _).trans (hHeld.2.2.2.2.2.2.2.2.2.1)))))))))))), ((cell_far (p := ⟨gb124, _, none⟩) qc.out _).trans (((cell_far (p := ⟨gb124, _, none⟩) qc.out _).trans (((cell_far (p := ⟨gb124, _, none⟩) qc.out _).trans (((cell_far (p := ⟨gb124, _, none⟩) qc.out _).trans (((cell_far (p := ⟨gb124, _, none⟩) qc.out _).trans (((cell_far (p := ⟨gb124, _, none⟩) qc.out _).trans (hHeld.2.2.2.2.2.2.2.2.2.2.1)))))))))))), ((cell_far (p := ⟨gb124, _, none⟩) qc.out _).trans (((cell_far (p := ⟨gb124, _, none⟩) qc.out _).trans (((cell_far (p := ⟨gb124, _, none⟩) qc.out _).trans (((cell_far (p := ⟨gb124, _, none⟩) qc.out _).trans (((cell_far (p := ⟨gb124, _, none⟩) qc.out _).trans (((cell_far (p := ⟨gb124, _, none⟩) qc.out _).trans (hHeld.2.2.2.2.2.2.2.2.2.2.2))))))))))))⟩ (fun hHeld => ?_)
 clear hK K
 refine done_ (by kernel_rfl) ?_
 try go_wp2
 refine bodyPost_ret (results_cc rfl _ _ gb123 gb124 46 46 #[.string a1_0, .int .i64 a1_1, .string a1_2, .bool a1_3, .bool a1_4, .int .i64 a1_5] #[.string a0_0, .int .i64 a0_1, .string a0_2, .bool a0_3, .bool a0_4, .int .i64 a0_5] (0, 0) (0, 0) _ _ rfl (by (with_reducible repeat (first | refine blk_drewN ?_ _ | refine blk_drew ?_ | refine blk_alloc ?_ _)); refine blk_far ?_ qf.out _; (with_reducible repeat (first | refine blk_drewN ?_ _ | refine blk_drew ?_ | refine blk_alloc ?_ _)); refine blk_far ?_ qf.out _; (with_reducible repeat (first | refine blk_drewN ?_ _ | refine blk_drew ?_ | refine blk_alloc ?_ _)); refine blk_far ?_ qf.out _; (with_reducible repeat (first | refine blk_drewN ?_ _ | refine blk_drew ?_ | refine blk_alloc ?_ _)); refine blk_far ?_ qf.out _; (with_reducible repeat (first | refine blk_drewN ?_ _ | refine blk_drew ?_ | refine blk_alloc ?_ _)); refine blk_far ?_ qf.out _; (with_reducible repeat (first | refine blk_drewN ?_ _ | refine blk_drew ?_ | refine blk_alloc ?_ _)); refine blk_far ?_ qf.out _; (with_reducible repeat (first | refine blk_drewN ?_ _ | refine blk_drew ?_ | refine blk_alloc ?_ _)); refine blk_put (cs := #[.string a1_0, .int .i64 a1_1, .string a1_2, .bool a1_3, .bool a1_4, .int .i64 0]) ?_ 5 _ rfl; (with_reducible repeat (first | refine blk_drewN ?_ _ | refine blk_drew ?_ | refine blk_alloc ?_ _)); refine blk_put (cs := #[.string a1_0, .int .i64 a1_1, .string a1_2, .bool a1_3, .bool false, .int .i64 0]) ?_ 4 _ rfl; (with_reducible repeat (first | refine blk_drewN ?_ _ | refine blk_drew ?_ | refine blk_alloc ?_ _)); refine blk_put (cs := #[.string a1_0, .int .i64 a1_1, .string a1_2, .bool false, .bool false, .int .i64 0]) ?_ 3 _ rfl; (with_reducible repeat (first | refine blk_drewN ?_ _ | refine blk_drew ?_ | refine blk_alloc ?_ _)); refine blk_put (cs := #[.string a1_0, .int .i64 a1_1, .string (⟨#[]⟩ : ByteArray), .bool false, .bool false, .int .i64 0]) ?_ 2 _ rfl; (with_reducible repeat (first | refine blk_drewN ?_ _ | refine blk_drew ?_ | refine blk_alloc ?_ _)); refine blk_put (cs := #[.string a1_0, .int .i64 0, .string (⟨#[]⟩ : ByteArray), .bool false, .bool false, .int .i64 0]) ?_ 1 _ rfl; (with_reducible repeat (first | refine blk_drewN ?_ _ | refine blk_drew ?_ | refine blk_alloc ?_ _)); refine blk_put (cs := #[.string (⟨#[]⟩ : ByteArray), .int .i64 0, .string (⟨#[]⟩ : ByteArray), .bool false, .bool false, .int .i64 0]) ?_ 0 _ rfl; (with_reducible repeat (first | refine blk_drewN ?_ _ | refine blk_drew ?_ | refine blk_alloc ?_ _)); exact qw.out) Tryz.underlying46 rfl (by kernel_rfl) rfl (by (with_reducible repeat (first | refine blk_drewN ?_ _ | refine blk_drew ?_ | refine blk_alloc ?_ _)); refine blk_put (cs := #[.string a0_0, .int .i64 a0_1, .string a0_2, .bool a0_3, .bool a0_4, .int .i64 0]) ?_ 5 _ rfl; (with_reducible repeat (first | refine blk_drewN ?_ _ | refine blk_drew ?_ | refine blk_alloc ?_ _)); refine blk_put (cs := #[.string a0_0, .int .i64 a0_1, .string a0_2, .bool a0_3, .bool false, .int .i64 0]) ?_ 4 _ rfl; (with_reducible repeat (first | refine blk_drewN ?_ _ | refine blk_drew ?_ | refine blk_alloc ?_ _)); refine blk_put (cs := #[.string a0_0, .int .i64 a0_1, .string a0_2, .bool false, .bool false, .int .i64 0]) ?_ 3 _ rfl; (with_reducible repeat (first | refine blk_drewN ?_ _ | refine blk_drew ?_ | refine blk_alloc ?_ _)); refine blk_put (cs := #[.string a0_0, .int .i64 a0_1, .string (⟨#[]⟩ : ByteArray), .bool false, .bool false, .int .i64 0]) ?_ 2 _ rfl; (with_reducible repeat (first | refine blk_drewN ?_ _ | refine blk_drew ?_ | refine blk_alloc ?_ _)); refine blk_put (cs := #[.string a0_0, .int .i64 0, .string (⟨#[]⟩ : ByteArray), .bool false, .bool false, .int .i64 0]) ?_ 1 _ rfl; (with_reducible repeat (first | refine blk_drewN ?_ _ | refine blk_drew ?_ | refine blk_alloc ?_ _)); refine blk_put (cs := #[.string (⟨#[]⟩ : ByteArray), .int .i64 0, .string (⟨#[]⟩ : ByteArray), .bool false, .bool false, .int .i64 0]) ?_ 0 _ rfl; (with_reducible repeat (first | refine blk_drewN ?_ _ | refine blk_drew ?_ | refine blk_alloc ?_ _)); refine blk_far ?_ qi.out _; (with_reducible repeat (first | refine blk_drewN ?_ _ | refine blk_drew ?_ | refine blk_alloc ?_ _)); refine blk_far ?_ qi.out _; (with_reducible repeat (first | refine blk_drewN ?_ _ | refine blk_drew ?_ | refine blk_alloc ?_ _)); refine blk_far ?_ qi.out _; (with_reducible repeat (first | refine blk_drewN ?_ _ | refine blk_drew ?_ | refine blk_alloc ?_ _)); refine blk_far ?_ qi.out _; (with_reducible repeat (first | refine blk_drewN ?_ _ | refine blk_drew ?_ | refine blk_alloc ?_ _)); refine blk_far ?_ qi.out _; (with_reducible repeat (first | refine blk_drewN ?_ _ | refine blk_drew ?_ | refine blk_alloc ?_ _)); refine blk_far ?_ qi.out _; (with_reducible repeat (first | refine blk_drewN ?_ _ | refine blk_drew ?_ | refine blk_alloc ?_ _)); exact qv.out) Tryz.underlying46 rfl (by kernel_rfl)) rfl ?_
 exact ⟨by first | rfl | (simp [errW_none, errW_some] <;> rfl) | (simp [*, errW_none, errW_some] <;> rfl) | (simp only [Bool.and_eq_true, beq_iff_eq, Bool.not_eq_true', Bool.not_eq_eq_eq_not, Bool.not_true, Bool.not_false] at *; simp [*]), by repeat (first | (with_reducible first | exact HB.out | apply below_alloc | apply pw_below_drewN | apply below_drew1 | refine below_set ?_ qx.out | refine below_set ?_ qp.out | refine below_set ?_ qt.out | refine below_set ?_ qq.out) | exact HB.out)⟩

/-! ### impl_in: function 20 -/
def impl_in.f (a0 : Int) (a1 : Int) (a2 : Int) : Option (Bool) := if a0 ≥ a1 then (some (decide (a0 ≤ a2))) else (some false)
set_option maxHeartbeats 8000000 in
set_option maxRecDepth 100000 in
theorem impl_in.calls (a0 : Int) (a1 : Int) (a2 : Int) (r : Bool) (w : World) (h : impl_in.f a0 a1 a2 = some r) :
  Calls Tryz.prog 20 #[.int .i64 a0, .int .i64 a1, .int .i64 a2] w fun e w' => e = .returned (.bool r) ∧ Drawn0 w w' := by
 have H : (if a0 ≥ a1 then (some (decide (a0 ≤ a2))) else (some false)) = some r := h
 clear h
 by_cases c4 : a0 ≥ a1
 ·rw [if_pos c4] at H
  have c4b0 : decide (a1 ≤ a0) = true := decide_eq_true c4
  clear c4
  obtain rfl := Option.some.inj H
  go_enter Tryz.func20, Tryz.ntmps20
  go_wp2
  go_ret
  exact ⟨by first | rfl | (simp; done) | (simp [*]; done), by repeat (first | exact Drawn0.refl _ | apply Drawn0.step)⟩
 ·rw [if_neg c4] at H
  have c4b0 : decide (a1 ≤ a0) = false := decide_eq_false c4
  clear c4
  obtain rfl := Option.some.inj H
  go_enter Tryz.func20, Tryz.ntmps20
  go_wp2
  go_ret
  exact ⟨by first | rfl | (simp; done) | (simp [*]; done), by repeat (first | exact Drawn0.refl _ | apply Drawn0.step)⟩

/-! ### impl_isLetter: function 75 -/
def impl_isLetter.f (a0 : Int) : Option (Bool) := if a0 ≥ 97 then (if a0 ≤ 122 then (some true) else (if a0 ≥ 65 then (some (decide (a0 ≤ 90))) else (some false))) else (if a0 ≥ 65 then (some (decide (a0 ≤ 90))) else (some false))
set_option maxHeartbeats 8000000 in
set_option maxRecDepth 100000 in
theorem impl_isLetter.calls (a0 : Int) (r : Bool) (w : World) (h : impl_isLetter.f a0 = some r) :
  Calls Tryz.prog 75 #[.int .u8 a0] w fun e w' => e = .returned (.bool r) ∧ Drawn0 w w' := by
 have H : (if a0 ≥ 97 then (if a0 ≤ 122 then (some true) else (if a0 ≥ 65 then (some (decide (a0 ≤ 90))) else (some false))) else (if a0 ≥ 65 then (some (decide (a0 ≤ 90))) else (some false))) = some r := h
 clear h
 by_cases c2 : a0 ≥ 97
 ·rw [if_pos c2] at H
  have c2b0 : decide (97 ≤ a0) = true := decide_eq_true c2
  clear c2
  by_cases c3 : a0 ≤ 122
  ·rw [if_pos c3] at H
   have c3b0 : decide (a0 ≤ 122) = true := decide_eq_true c3
   clear c3
   obtain rfl := Option.some.inj H
   go_enter Tryz.func75, Tryz.ntmps75
   go_wp2
   go_ret
   exact ⟨by first | rfl | (simp; done) | (simp [*]; done), by repeat (first | exact Drawn0.refl _ | apply Drawn0.step)⟩
  ·rw [if_neg c3] at H
   have c3b0 : decide (a0 ≤ 122) = false := decide_eq_false c3
   clear c3
   by_cases c4 : a0 ≥ 65
   ·rw [if_pos c4] at H
    have c4b0 : decide (65 ≤ a0) = true := decide_eq_true c4
    clear c4
    obtain rfl := Option.some.inj H
    go_enter Tryz.func75, Tryz.ntmps75
    go_wp2
    go_ret
    exact ⟨by first | rfl | (simp; done) | (simp [*]; done), by repeat (first | exact Drawn0.refl _ | apply Drawn0.step)⟩
   ·rw [if_neg c4] at H
    have c4b0 : decide (65 ≤ a0) = false := decide_eq_false c4
    clear c4
    obtain rfl := Option.some.inj H
    go_enter Tryz.func75, Tryz.ntmps75
    go_wp2
    go_ret
    exact ⟨by first | rfl | (simp; done) | (simp [*]; done), by repeat (first | exact Drawn0.refl _ | apply Drawn0.step)⟩
 ·rw [if_neg c2] at H
  have c2b0 : decide (97 ≤ a0) = false := decide_eq_false c2
  clear c2
  by_cases c5 : a0 ≥ 65
  ·rw [if_pos c5] at H
   have c5b0 : decide (65 ≤ a0) = true := decide_eq_true c5
   clear c5
   obtain rfl := Option.some.inj H
   go_enter Tryz.func75, Tryz.ntmps75
   go_wp2
   go_ret
   exact ⟨by first | rfl | (simp; done) | (simp [*]; done), by repeat (first | exact Drawn0.refl _ | apply Drawn0.step)⟩
  ·rw [if_neg c5] at H
   have c5b0 : decide (65 ≤ a0) = false := decide_eq_false c5
   clear c5
   obtain rfl := Option.some.inj H
   go_enter Tryz.func75, Tryz.ntmps75
   go_wp2
   go_ret
   exact ⟨by first | rfl | (simp; done) | (simp [*]; done), by repeat (first | exact Drawn0.refl _ | apply Drawn0.step)⟩

/-! ### impl_isFigure: function 76 -/
def impl_isFigure.f (a0 : Int) : Option (Bool) := if a0 ≥ 48 then (some (decide (a0 ≤ 57))) else (some false)
set_option maxHeartbeats 8000000 in
set_option maxRecDepth 100000 in
theorem impl_isFigure.calls (a0 : Int) (r : Bool) (w : World) (h : impl_isFigure.f a0 = some r) :
  Calls Tryz.prog 76 #[.int .u8 a0] w fun e w' => e = .returned (.bool r) ∧ Drawn0 w w' := by
 have H : (if a0 ≥ 48 then (some (decide (a0 ≤ 57))) else (some false)) = some r := h
 clear h
 by_cases c2 : a0 ≥ 48
 ·rw [if_pos c2] at H
  have c2b0 : decide (48 ≤ a0) = true := decide_eq_true c2
  clear c2
  obtain rfl := Option.some.inj H
  go_enter Tryz.func76, Tryz.ntmps76
  go_wp2
  go_ret
  exact ⟨by first | rfl | (simp; done) | (simp [*]; done), by repeat (first | exact Drawn0.refl _ | apply Drawn0.step)⟩
 ·rw [if_neg c2] at H
  have c2b0 : decide (48 ≤ a0) = false := decide_eq_false c2
  clear c2
  obtain rfl := Option.some.inj H
  go_enter Tryz.func76, Tryz.ntmps76
  go_wp2
  go_ret
  exact ⟨by first | rfl | (simp; done) | (simp [*]; done), by repeat (first | exact Drawn0.refl _ | apply Drawn0.step)⟩

end Go.Proofs.YtjeipkfeihahdaaGreatDoor.P
