/- The first package's layout of fields that are ok. -/
import Derived.Test.YtjeipkfeihahdaaGreatDoorStubLayout
import Derived.Test.YtjeipkfeihahdaaGreatDoorStubFieldsOk
namespace Go.Proofs.YtjeipkfeihahdaaGreatDoor
set_option linter.unusedVariables false
set_option linter.unusedSimpArgs false
open Go.RowKit Go.Maps Go.Proofs.YtjeipkfeihahdaaGreatDoor.Lem Go.Proofs.YtjeipkfeihahdaaGreatDoor.P Go.Proofs.YtjeipkfeihahdaaGreatDoorW.PrintWords Go.Proofs.YtjeipkfeihahdaaGreatDoorW.PrintLast Go.Proofs.YtjeipkfeihahdaaGreatDoorW.PrintMore
def okF (l : List S38) : Bool := decide ((l.length : Int) ≤ 12) && !(l.any badField)
theorem okF_good {l : List S38} (h : okF l = true) : FieldsGood l := by
 unfold okF at h
 simp only [Bool.and_eq_true, decide_eq_true_eq, Bool.not_eq_true', List.any_eq_false] at h
 refine ⟨by omega, fun f hf => ?_⟩
 have := h.2 f hf
 unfold badField at this
 simp at this
 omega
set_option maxHeartbeats 4000000 in
set_option maxRecDepth 100000 in
theorem layoutOf_calls (A0 : Option Addr) (c0 : Nat) (l0 : List S38) (w : World) (hSB : SBw w) (hr0 : Kd.C k38 w A0 l0.length l0) (hc0 : l0.length ≤ c0) (hok : okF l0 = true) :
  Calls Tryz.prog 8 #[.slice A0 l0.length c0] w fun e w' => ∃ A c, e = .returned (.tuple #[.agg #[.int .i64 (layS l0).2.words, .int .i64 (layS l0).2.ptrs, .slice A l0.length c, .int .i64 (layS l0).2.tag], .bool true]) ∧ Kd.C k113 w' A l0.length ((layS l0).1.map S113.mk) ∧ l0.length ≤ c ∧ Below w.heap.size w w' := by
 have hG := okF_good hok
 have hf1 : impl_FieldsOk.f l0 = some true := by unfold impl_FieldsOk.f; exact congrArg some hok
 have hf2 : impl_layout.f l0 = some ((layS l0).2.words, (layS l0).2.ptrs, (layS l0).1.map S113.mk, (layS l0).2.tag) := by unfold impl_layout.f; rw [if_pos hG]
 have hlen : ((layS l0).1.map S113.mk).length = l0.length := by rw [List.length_map]; unfold layS; rw [layP_length, List.length_map]
 obtain ⟨xs, hxs⟩ : ∃ xs, xs = (layS l0).1.map S113.mk := ⟨_, rfl⟩
 rw [← hxs] at hf2 hlen ⊢
 generalize (layS l0).2.words = n0 at *
 generalize (layS l0).2.ptrs = n1 at *
 generalize (layS l0).2.tag = n2 at *
 have HLEN := Aside0.mk hlen
 have HF1 := Aside0.mk hf1
 have HF2 := Aside0.mk hf2
 have HS := Aside0.mk hSB
 have HR := Aside0.mk hr0
 have HC := Aside0.mk hc0
 clear hxs hf1 hf2 hSB hr0 hc0 hok hG hlen
 go_enter Tryz.func8, Tryz.ntmps8
 go_upto_region 1 with fail
 obtain ⟨R, hRe⟩ : ∃ R, R = w.heap.size := ⟨_, rfl⟩
 obtain ⟨w1, hw1⟩ : ∃ w1, w1 = w.alloc (.cells #[.int .i64 0, .int .i64 0, .slice none 0 0, .int .i64 0] 34) := ⟨_, rfl⟩
 have HW := Aside0.mk (show Below w.heap.size w w1 from by rw [hw1]; exact below_alloc (Below.refl _ _) _)
 have HRB := Aside0.mk (show w1.heap[R]? = some (.cells #[.int .i64 0, .int .i64 0, .slice none 0 0, .int .i64 0] 34 (0, 0)) from by rw [hw1, hRe]; exact heap_alloc_new w _)
 have HRL := Aside0.mk (show w.heap.size ≤ R from by rw [hRe]; exact Nat.le_refl _)
 have HR1 := Aside0.mk (show Kd.C k38 w1 A0 l0.length l0 from by rw [hw1]; exact Kd.C_alloc HR.out _)
 have HS1 := Aside0.mk (show SBw w1 from HS.out.mv HW.out)
 rw [← hw1, ← hRe]
 clear hRe hw1 HR HS
 go_wp2_with (first | (go_at_call 9; refine (impl_FieldsOk.calls A0 c0 l0 true w1 HS1.out HR1.out HC.out HF1.out).mono ?_; rintro e W1 ⟨rfl, hb1⟩; have HB1 := Aside0.mk hb1; clear hb1) | (go_at_call 18; refine (impl_layout.calls A0 c0 l0 n0 n1 xs n2 W1 (HS1.out.mv HB1.out) (Kd.C_below HR1.out HB1.out) HC.out HF2.out).mono ?_; rintro e W2 ⟨v2, rfl, hR2, hb2⟩; obtain ⟨A2, c2, rfl⟩ := Kd.R_slice hR2; have HR2 := Aside0.mk hR2; have hb3 := HB1.out.trans (hb2.mono HB1.out.size); have HB2 := Aside0.mk (HW.out.trans (hb3.mono HW.out.size)); have hr : W2.heap[R]? = some (.cells #[.int .i64 0, .int .i64 0, .slice none 0 0, .int .i64 0] 34 (0, 0)) := (hb3.block _ (blk_lt HRB.out)).trans HRB.out; have HRR := Aside0.mk hr; have y0 : W2.cell? ⟨R, 0, none⟩ = some (.int .i64 0) := (blk_cell hr 0).trans rfl; have y1 : W2.cell? ⟨R, 1, none⟩ = some (.int .i64 0) := (blk_cell hr 1).trans rfl; have y2 : W2.cell? ⟨R, 2, none⟩ = some (.slice none 0 0) := (blk_cell hr 2).trans rfl; have y3 : W2.cell? ⟨R, 3, none⟩ = some (.int .i64 0) := (blk_cell hr 3).trans rfl; have z0 := blk_frozen hr 0; have z1 := blk_frozen hr 1; have z2 := blk_frozen hr 2; have z3 := blk_frozen hr 3; clear hR2 hb2 hb3 hr))
 refine bodyPost_ret (results_ct rfl _ _ R 34 #[.int .i64 n0, .int .i64 n1, .slice A2 xs.length c2, .int .i64 n2] (0, 0) _ rfl (blk_put (blk_put (blk_put (blk_put HRR.out 0 _ rfl) 1 _ rfl) 2 _ rfl) 3 _ rfl) Tryz.underlying34 rfl (by kernel_rfl)) rfl ?_
 have b0 := blk_put HRR.out 0 (.int .i64 n0) rfl
 have b1 := blk_put b0 1 (.int .i64 n1) rfl
 have b2 := blk_put b1 2 (.slice A2 xs.length c2) rfl
 have h := Kd.R_reads' (Kd.R_set (Kd.R_set (Kd.R_set (Kd.R_set HR2.out HRR.out (by decide) 0 (.int .i64 n0)) b0 (by decide) 1 (.int .i64 n1)) b1 (by decide) 2 (.slice A2 xs.length c2)) b2 (by decide) 3 (.int .i64 n2))
 have e := HLEN.out
 refine ⟨A2, c2, by rw [← e]; rfl, ?_, by omega, below_set (below_set (below_set (below_set HB2.out HRL.out) HRL.out) HRL.out) HRL.out⟩
 rw [← e]
 exact h.2.2
end Go.Proofs.YtjeipkfeihahdaaGreatDoor
