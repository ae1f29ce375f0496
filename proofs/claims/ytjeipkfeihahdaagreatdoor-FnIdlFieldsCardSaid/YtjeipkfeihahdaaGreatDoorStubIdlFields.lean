/- The fields of a struct of a schema, or none: the first package. -/
import Derived.Test.YtjeipkfeihahdaaGreatDoorStubFields
import Derived.Test.YtjeipkfeihahdaaGreatDoorStubIc
namespace Go.Proofs.YtjeipkfeihahdaaGreatDoor
set_option linter.unusedVariables false
set_option linter.unusedSimpArgs false
open Go.RowKit Go.Proofs.YtjeipkfeihahdaaGreatDoor.P Go.Proofs.YtjeipkfeihahdaaGreatDoor.Lem Go.Proofs.YtjeipkfeihahdaaGreatDoorW.PrintWords Go.Proofs.YtjeipkfeihahdaaGreatDoorW.PrintLast Go.Proofs.YtjeipkfeihahdaaGreatDoorW.PrintMore
/-- What a struct of a schema that is fine has. -/
theorem fine_has {l0 : List SS} {l1 : List SE} (hS : Small l0 l1) (hIC : IC l0 l1 = 0) {x : SS} (hx : x ∈ l0) : 0 < x.f1.length ∧ x.f1.length ≤ 10 ∧ ∀ d ∈ x.f1, d.f2.f0.size ≤ 1000 := by
 have h1 := (ic_zero l0 l1 hIC).1
 exact ⟨(formed_lots h1).2 x hx, (hS.s0 x hx).2.1, fun d hd => by have := ((hS.s0 x hx).2.2 d hd).2.1; omega⟩
theorem find_mem {l : List SS} {a : ByteArray} {x : SS} (h : findS l a = some x) : x ∈ l ∧ x.f0.toList = a.toList := by
 unfold findS at h
 exact ⟨List.mem_of_find?_eq_some h, by simpa using List.find?_some h⟩
section
variable {A0 A1 : Option Addr} {c0 c1 : Nat} {l0 : List SS} {l1 : List SE}
theorem record_callsF (a : ByteArray) (w0 w : World) (hS : Small l0 l1) (h : SchAt w0 A0 c0 l0 A1 c1 l1) (hw : Below w0.heap.size w0 w) :
  Calls Tryz.prog 27 #[schV A0 c0 l0 A1 c1 l1, .string a] w fun e w' => ∃ B d, e = .returned (.tuple #[.agg #[.string ((findS l0 a).getD zS).f0, .slice B ((findS l0 a).getD zS).f1.length d], .bool (findS l0 a).isSome]) ∧
   ((findS l0 a).getD zS).f1.length ≤ d ∧ Kd.F k46 w' (fun k => k < w0.heap.size ∨ w.heap.size ≤ k) B ((findS l0 a).getD zS).f1.length ((findS l0 a).getD zS).f1 ∧ Below w.heap.size w w' := by
 have hk := record_f a l0 l1 (by have := hS.n0; omega) 1002 (Nat.le_refl _)
 have hk' : impl_Schema_record.f 1002 l0 l1 a = some (((findS l0 a).getD zS).f0, ((findS l0 a).getD zS).f1, (findS l0 a).isSome) := by
  rw [hk]
  cases findS l0 a <;> rfl
 refine (impl_Schema_record.calls 1002 _ A0 c0 l0 A1 c1 l1 a _ _ _ w (Kd.V_mk h.b0 (Kd.F_below (Kd.C_F heapS h.h0) hw)) (Kd.C_below h.h1 hw) h.b1 hk').mono ?_
 rintro e w' ⟨v1, rfl, ⟨B, d, rfl, hl, hF⟩, hb⟩
 exact ⟨B, d, rfl, hl, hF, hb⟩
set_option maxHeartbeats 4000000 in
set_option maxRecDepth 100000 in
theorem fine_bad (a : ByteArray) (w : World) (hSB : SBw w) (hS : Small l0 l1) (h : SchAt w A0 c0 l0 A1 c1 l1) (hIC : IC l0 l1 ≠ 0) :
  Calls Tryz.prog 13 #[schV A0 c0 l0 A1 c1 l1, .string a] w fun e w' => e = .returned (.tuple #[.agg #[.string ⟨#[]⟩, .slice none 0 0], .bool false]) ∧ Below w.heap.size w w' := by
 have PC := Aside0.mk (fun W (hW : Below w.heap.size w W) => idl_calls (l0 := l0) (l1 := l1) (A0 := A0) (c0 := c0) (A1 := A1) (c1 := c1) W (hSB.mv hW) hS (h.below hW))
 generalize IC l0 l1 = r at PC hIC
 have hr : (r != 0) = true := by simp [hIC]
 clear hSB hS h
 go_enter Tryz.func13, Tryz.ntmps13
 go_upto_region 1 with fail
 obtain ⟨R, hR⟩ : ∃ R, R = w.heap.size + 1 := ⟨_, rfl⟩
 obtain ⟨B, hB⟩ : ∃ B, B = w.heap.size := ⟨_, rfl⟩
 obtain ⟨w1, hw1⟩ : ∃ w1, w1 = (w.alloc (.cells #[.slice A0 l0.length c0, .slice A1 l1.length c1] 26)).alloc (.cells #[.string ⟨#[]⟩, .slice none 0 0] 42) := ⟨_, rfl⟩
 have q0 : w1.cell? ⟨B, 0, none⟩ = some (.slice A0 l0.length c0) := by rw [hw1, hB]; exact (blk_cell (blk_alloc (heap_alloc_new w _) _) 0).trans rfl
 have q1 : w1.cell? ⟨B, 1, none⟩ = some (.slice A1 l1.length c1) := by rw [hw1, hB]; exact (blk_cell (blk_alloc (heap_alloc_new w _) _) 1).trans rfl
 have HRB := Aside0.mk (show w1.heap[R]? = some (.cells #[.string ⟨#[]⟩, .slice none 0 0] 42 (0, 0)) from by
  have := heap_alloc_new (w.alloc (.cells #[.slice A0 l0.length c0, .slice A1 l1.length c1] 26)) (.cells #[.string ⟨#[]⟩, .slice none 0 0] 42)
  rw [World.size_alloc, ← hw1, ← hR] at this
  exact this)
 have HW := Aside0.mk (show Below w.heap.size w w1 from by rw [hw1]; exact below_alloc (below_alloc (Below.refl _ _) _) _)
 have HRL := Aside0.mk (show w.heap.size ≤ R from by omega)
 rw [← hw1, ← hR, ← hB]
 clear hw1 hR hB
 go_wp2_with (go_at_call 26; refine (PC.out w1 HW.out).mono ?_; rintro e W1 ⟨rfl, hb1⟩; have HB1 := Aside0.mk (HW.out.trans (hb1.mono HW.out.size)); have hr : W1.heap[R]? = some (.cells #[.string ⟨#[]⟩, .slice none 0 0] 42 (0, 0)) := (hb1.block _ (blk_lt HRB.out)).trans HRB.out; have HRR := Aside0.mk hr; have y0 : W1.cell? ⟨R, 0, none⟩ = some (.string ⟨#[]⟩) := (blk_cell hr 0).trans rfl; have y1 : W1.cell? ⟨R, 1, none⟩ = some (.slice none 0 0) := (blk_cell hr 1).trans rfl; have z0 := blk_frozen hr 0; have z1 := blk_frozen hr 1; clear hb1 hr)
 refine bodyPost_ret (results_ct rfl _ _ R 42 #[.string ⟨#[]⟩, .slice none 0 0] (0, 0) _ rfl (blk_put (blk_put HRR.out 0 _ rfl) 1 _ rfl) Tryz.underlying42 rfl (by kernel_rfl)) rfl ?_
 exact ⟨rfl, below_set (below_set HB1.out HRL.out) HRL.out⟩
set_option maxHeartbeats 4000000 in
set_option maxRecDepth 100000 in
theorem fine_ok (a : ByteArray) (w : World) (hSB : SBw w) (hS : Small l0 l1) (h : SchAt w A0 c0 l0 A1 c1 l1) (hIC : IC l0 l1 = 0) :
  Calls Tryz.prog 13 #[schV A0 c0 l0 A1 c1 l1, .string a] w fun e w' => ∃ B d, e = .returned (.tuple #[.agg #[.string ((findS l0 a).getD zS).f0, .slice B ((findS l0 a).getD zS).f1.length d], .bool (findS l0 a).isSome]) ∧ ((findS l0 a).getD zS).f1.length ≤ d ∧ Kd.C k46 w' B ((findS l0 a).getD zS).f1.length ((findS l0 a).getD zS).f1 ∧ Below w.heap.size w w' := by
 have PC := Aside0.mk (fun W (hW : Below w.heap.size w W) => idl_calls (l0 := l0) (l1 := l1) (A0 := A0) (c0 := c0) (A1 := A1) (c1 := c1) W (hSB.mv hW) hS (h.below hW))
 have PR := Aside0.mk (fun W (hW : Below w.heap.size w W) => record_callsF (l0 := l0) (l1 := l1) (A0 := A0) (c0 := c0) (A1 := A1) (c1 := c1) a w W hS h hW)
 rw [hIC] at PC
 generalize (findS l0 a).isSome = ok at PR ⊢
 generalize (findS l0 a).getD zS = x at PR ⊢
 clear hIC
 clear hSB hS h
 go_enter Tryz.func13, Tryz.ntmps13
 go_upto_region 1 with fail
 obtain ⟨R, hR⟩ : ∃ R, R = w.heap.size + 1 := ⟨_, rfl⟩
 obtain ⟨B, hB⟩ : ∃ B, B = w.heap.size := ⟨_, rfl⟩
 obtain ⟨w1, hw1⟩ : ∃ w1, w1 = (w.alloc (.cells #[.slice A0 l0.length c0, .slice A1 l1.length c1] 26)).alloc (.cells #[.string ⟨#[]⟩, .slice none 0 0] 42) := ⟨_, rfl⟩
 have q0 : w1.cell? ⟨B, 0, none⟩ = some (.slice A0 l0.length c0) := by rw [hw1, hB]; exact (blk_cell (blk_alloc (heap_alloc_new w _) _) 0).trans rfl
 have q1 : w1.cell? ⟨B, 1, none⟩ = some (.slice A1 l1.length c1) := by rw [hw1, hB]; exact (blk_cell (blk_alloc (heap_alloc_new w _) _) 1).trans rfl
 have HRB := Aside0.mk (show w1.heap[R]? = some (.cells #[.string ⟨#[]⟩, .slice none 0 0] 42 (0, 0)) from by
  have := heap_alloc_new (w.alloc (.cells #[.slice A0 l0.length c0, .slice A1 l1.length c1] 26)) (.cells #[.string ⟨#[]⟩, .slice none 0 0] 42)
  rw [World.size_alloc, ← hw1, ← hR] at this
  exact this)
 have HW := Aside0.mk (show Below w.heap.size w w1 from by rw [hw1]; exact below_alloc (below_alloc (Below.refl _ _) _) _)
 have HRL := Aside0.mk (show w.heap.size ≤ R from by omega)
 rw [← hw1, ← hR, ← hB]
 clear hw1 hR hB
 go_wp2_with (first | (go_at_call 26; refine (PC.out w1 HW.out).mono ?_; rintro e W1 ⟨rfl, hb1⟩; have HB1 := Aside0.mk (HW.out.trans (hb1.mono HW.out.size)); have q2 := pw_cell_below hb1 q0; have q3 := pw_cell_below hb1 q1; have HR1 := Aside0.mk (show W1.heap[R]? = some (.cells #[.string ⟨#[]⟩, .slice none 0 0] 42 (0, 0)) from (hb1.block _ (blk_lt HRB.out)).trans HRB.out); clear hb1) | (go_at_call 27; refine (PR.out W1 HB1.out).mono ?_; rintro e W2 ⟨D, d, rfl, hd, hC, hb2⟩; have HB2 := Aside0.mk (HB1.out.trans (hb2.mono HB1.out.size)); have HCC := Aside0.mk (Kd.F_mono hC (ok' := fun k => k ≠ R) (fun k hk e => by have := HRL.out; have := blk_lt HR1.out; omega)); have hr : W2.heap[R]? = some (.cells #[.string ⟨#[]⟩, .slice none 0 0] 42 (0, 0)) := (hb2.block _ (blk_lt HR1.out)).trans HR1.out; have HRR := Aside0.mk hr; have y0 : W2.cell? ⟨R, 0, none⟩ = some (.string ⟨#[]⟩) := (blk_cell hr 0).trans rfl; have y1 : W2.cell? ⟨R, 1, none⟩ = some (.slice none 0 0) := (blk_cell hr 1).trans rfl; have z0 := blk_frozen hr 0; have z1 := blk_frozen hr 1; clear hb2 hr hC))
 refine bodyPost_ret (results_ct rfl _ _ R 42 #[.string x.f0, .slice D x.f1.length d] (0, 0) _ rfl (blk_put (blk_put HRR.out 0 _ rfl) 1 _ rfl) Tryz.underlying42 rfl (by kernel_rfl)) rfl ?_
 have b1 := blk_put HRR.out 0 (.string x.f0) rfl
 exact ⟨D, d, rfl, hd, Kd.F_now (Kd.F_far (Kd.F_far HCC.out (p := ⟨R, 0, none⟩) (fun _ hk => hk) _) (p := ⟨R, 1, none⟩) (fun _ hk => hk) _), below_set (below_set HB2.out HRL.out) HRL.out⟩
set_option maxHeartbeats 4000000 in
set_option maxRecDepth 100000 in
theorem idlF_none (a : ByteArray) (w : World) (hSB : SBw w) (hS : Small l0 l1) (h : SchAt w A0 c0 l0 A1 c1 l1) (hno : IC l0 l1 ≠ 0 ∨ findS l0 a = none) :
  Calls Tryz.prog 6 #[schV A0 c0 l0 A1 c1 l1, .string a] w fun e w' => e = .returned (.tuple #[.slice none 0 0, .bool false]) ∧ Below w.heap.size w w' := by
 have PF : Aside0 (∀ W, Below w.heap.size w W → Calls Tryz.prog 13 #[schV A0 c0 l0 A1 c1 l1, .string a] W fun e w' => ∃ s D n d, e = .returned (.tuple #[.agg #[.string s, .slice D n d], .bool false]) ∧ Below W.heap.size W w') := ⟨fun W hW => by
  by_cases hIC : IC l0 l1 = 0
  ·have hf : findS l0 a = none := by rcases hno with h1 | h1; exact absurd hIC h1; exact h1
   refine (fine_ok a W (hSB.mv hW) hS (h.below hW) hIC).mono ?_
   rw [hf]
   rintro e w' ⟨B, d, rfl, _, _, hb⟩
   exact ⟨_, _, _, _, rfl, hb⟩
  ·refine (fine_bad a W (hSB.mv hW) hS (h.below hW) hIC).mono ?_
   rintro e w' ⟨rfl, hb⟩
   exact ⟨_, _, _, _, rfl, hb⟩⟩
 clear hSB hS h hno
 go_enter Tryz.func6, Tryz.ntmps6
 go_upto_region 1 with fail
 obtain ⟨w1, hw1⟩ : ∃ w1, w1 = w.alloc (.cells #[.slice A0 l0.length c0, .slice A1 l1.length c1] 26) := ⟨_, rfl⟩
 obtain ⟨B, hB⟩ : ∃ B, B = w.heap.size := ⟨_, rfl⟩
 have q0 : w1.cell? ⟨B, 0, none⟩ = some (.slice A0 l0.length c0) := by rw [hw1, hB]; exact (blk_cell (heap_alloc_new w _) 0).trans rfl
 have q1 : w1.cell? ⟨B, 1, none⟩ = some (.slice A1 l1.length c1) := by rw [hw1, hB]; exact (blk_cell (heap_alloc_new w _) 1).trans rfl
 have HW := Aside0.mk (show Below w.heap.size w w1 from by rw [hw1]; exact below_alloc (Below.refl _ _) _)
 rw [← hw1, ← hB]
 clear hw1 hB
 go_wp2_with (go_at_call 13; refine (PF.out w1 HW.out).mono ?_; rintro e W1 ⟨s, D, n, d, rfl, hb1⟩; have HB1 := Aside0.mk (HW.out.trans (hb1.mono HW.out.size)); clear hb1)
 go_ret2
 exact ⟨rfl, HB1.out.trans ((below_alloc (Below.refl _ _) _).mono HB1.out.size)⟩
set_option maxHeartbeats 4000000 in
set_option maxRecDepth 100000 in
theorem idlF_some (a : ByteArray) (x : SS) (w : World) (hSB : SBw w) (hS : Small l0 l1) (h : SchAt w A0 c0 l0 A1 c1 l1) (hIC : IC l0 l1 = 0) (hx : findS l0 a = some x) :
  Calls Tryz.prog 6 #[schV A0 c0 l0 A1 c1 l1, .string a] w fun e w' => ∃ v, e = .returned (.tuple #[v, .bool true]) ∧ Kd.R k38 38 w' w.heap.size (fun _ => True) v ((ordSorted x.f1).map (fldF l0 l1)) ∧ Below w.heap.size w w' := by
 have HX := Aside0.mk (fine_has hS hIC (find_mem hx).1)
 have PF := Aside0.mk (fun W (hW : Below w.heap.size w W) => fine_ok (l0 := l0) (l1 := l1) (A0 := A0) (c0 := c0) (A1 := A1) (c1 := c1) a W (hSB.mv hW) hS (h.below hW) hIC)
 rw [hx] at PF
 have PD := Aside0.mk (fun W (hW : Below w.heap.size w W) D cD (hC : Kd.C k46 W D x.f1.length x.f1) => fields_calls (l0 := l0) (l1 := l1) (A0 := A0) (c0 := c0) (A1 := A1) (c1 := c1) x.f0 D cD x.f1 W (hSB.mv hW) hS (h.below hW) hC HX.out.1 HX.out.2.1 HX.out.2.2)
 replace PF := Aside0.mk (show ∀ W, Below w.heap.size w W → Calls Tryz.prog 13 #[schV A0 c0 l0 A1 c1 l1, .string a] W fun e w' => ∃ B d, e = .returned (.tuple #[.agg #[.string x.f0, .slice B x.f1.length d], .bool true]) ∧ x.f1.length ≤ d ∧ Kd.C k46 w' B x.f1.length x.f1 ∧ Below W.heap.size W w' from PF.out)
 clear hSB hS h hIC hx
 go_enter Tryz.func6, Tryz.ntmps6
 go_upto_region 1 with fail
 obtain ⟨w1, hw1⟩ : ∃ w1, w1 = w.alloc (.cells #[.slice A0 l0.length c0, .slice A1 l1.length c1] 26) := ⟨_, rfl⟩
 obtain ⟨B, hB⟩ : ∃ B, B = w.heap.size := ⟨_, rfl⟩
 have q0 : w1.cell? ⟨B, 0, none⟩ = some (.slice A0 l0.length c0) := by rw [hw1, hB]; exact (blk_cell (heap_alloc_new w _) 0).trans rfl
 have q1 : w1.cell? ⟨B, 1, none⟩ = some (.slice A1 l1.length c1) := by rw [hw1, hB]; exact (blk_cell (heap_alloc_new w _) 1).trans rfl
 have HW := Aside0.mk (show Below w.heap.size w w1 from by rw [hw1]; exact below_alloc (Below.refl _ _) _)
 rw [← hw1, ← hB]
 clear hw1 hB
 go_upto_region 4 with (go_at_call 13; refine (PF.out w1 HW.out).mono ?_; rintro e W1 ⟨D, d, rfl, _, hC, hb1⟩; have HB1 := Aside0.mk (HW.out.trans (hb1.mono HW.out.size)); have HC1 := Aside0.mk hC; have q2 := pw_cell_below hb1 q0; have q3 := pw_cell_below hb1 q1; clear hb1 hC q0 q1)
 obtain ⟨W2, hW2⟩ : ∃ W2, W2 = W1.alloc (.cells #[.string x.f0, .slice D x.f1.length d] 42) := ⟨_, rfl⟩
 obtain ⟨X, hX⟩ : ∃ X, X = W1.heap.size := ⟨_, rfl⟩
 have hb2 : Below W1.heap.size W1 W2 := by rw [hW2]; exact below_alloc (Below.refl _ _) _
 have x0 : W2.cell? ⟨X, 0, none⟩ = some (.string x.f0) := by rw [hW2, hX]; exact (blk_cell (heap_alloc_new W1 _) 0).trans rfl
 have x1 : W2.cell? ⟨X, 1, none⟩ = some (.slice D x.f1.length d) := by rw [hW2, hX]; exact (blk_cell (heap_alloc_new W1 _) 1).trans rfl
 have q4 := pw_cell_below hb2 q2
 have q5 := pw_cell_below hb2 q3
 have HC2 := Aside0.mk (Kd.C_below HC1.out hb2)
 have HB2 := Aside0.mk (HB1.out.trans (hb2.mono HB1.out.size))
 rw [← hW2, ← hX]
 clear hW2 hX hb2 q2 q3
 go_wp2_with (go_at_call 14; refine (PD.out W2 HB2.out D d HC2.out).mono ?_; rintro e W3 ⟨v, rfl, hR, hb3⟩; have HR3 := Aside0.mk hR; have HB3 := Aside0.mk hb3; clear hR hb3)
 go_ret2
 exact ⟨_, rfl, Kd.R_lower HR3.out HB2.out.size, HB2.out.trans (HB3.out.mono HB2.out.size)⟩
end
end Go.Proofs.YtjeipkfeihahdaaGreatDoor
