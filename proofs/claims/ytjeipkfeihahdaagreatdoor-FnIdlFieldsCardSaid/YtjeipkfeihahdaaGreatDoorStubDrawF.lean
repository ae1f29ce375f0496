/- The draw of a schema and a name, walked. -/
import Derived.Test.YtjeipkfeihahdaaGreatDoorStubAny2
namespace Go.Proofs.YtjeipkfeihahdaaGreatDoor
set_option linter.unusedVariables false
set_option linter.unusedSimpArgs false
open Go.RowKit Go.Proofs.YtjeipkfeihahdaaGreatDoor.P Go.Proofs.YtjeipkfeihahdaaGreatDoor.Lem Go.Proofs.YtjeipkfeihahdaaGreatDoorW.PrintWords Go.Proofs.YtjeipkfeihahdaaGreatDoorW.PrintLast Go.Proofs.YtjeipkfeihahdaaGreatDoorW.PrintMore
/-- A drawn schema, and a name. -/
def DrawnF (w : World) : Ending → World → Prop := fun e w' => ∃ A0 c0 l0 A1 c1 l1 nm, e = .returned (.tuple #[schV A0 c0 l0 A1 c1 l1, .string nm]) ∧ SchAt w' A0 c0 l0 A1 c1 l1 ∧ Small l0 l1 ∧ l0.length ≤ 5 ∧ nm.size ≤ 20 ∧ Below w.heap.size w w'
set_option maxHeartbeats 4000000 in
set_option maxRecDepth 100000 in
theorem drawF_calls (A : Option Addr) (c : Nat) (l : List Int) (w : World) (hl : ∀ x ∈ l, (Lit.int .u8 x).wf = true) (hA : Kd.C (Kd.int .u8) w A l.length l) (hc : l.length ≤ c) :
  Calls Tryz.prog 5 #[.slice A l.length c] w (DrawnF w) := by
 obtain ⟨b, hb, hby⟩ := open_f l hl
 have HA := Aside0.mk hA
 have HBY := Aside0.mk hby
 have HC := Aside0.mk hc
 have HOP := Aside0.mk hb
 clear hA hc hby hb
 unfold DrawnF
 go_enter Tryz.func5, Tryz.ntmps5
 go_upto_region 1 with fail
 obtain ⟨R, hR⟩ : ∃ R, R = w.heap.size := ⟨_, rfl⟩
 obtain ⟨w1, hw1⟩ : ∃ w1, w1 = w.alloc zSch := ⟨_, rfl⟩
 have HW := Aside0.mk (show Below w.heap.size w w1 from by rw [hw1]; exact below_alloc (Below.refl _ _) _)
 have HR := Aside0.mk (show w1.heap[R]? = some zSch from by rw [hw1, hR]; exact heap_alloc_new w _)
 have HRL := Aside0.mk (show w.heap.size ≤ R from by rw [hR]; exact Nat.le_refl _)
 have HA1 := Aside0.mk (show Kd.C (Kd.int .u8) w1 A l.length l from by rw [hw1]; exact Kd.C_alloc HA.out _)
 rw [← hw1, ← hR]
 clear hR hw1 HA
 go_wp2_with (first | (go_at_call 10; refine (spec_l1Open.calls A c l b 0 w1 w1 (Below.refl _ _) HA1.out HC.out HOP.out).mono ?_; rintro e W1 ⟨g, rfl, hIS, hb1, _⟩; have HIS := Aside0.mk hIS; have HB1 := Aside0.mk hb1; clear hIS hb1) | (go_at_call 11; refine (anyx w1 W1 g 0 ⟨b, 0, HIS.out, HBY.out, Int.le_refl _, Int.le_refl _⟩ HB1.out (by omega)).mono ?_; rintro e W2 ⟨v0, v1, us0, us1, rfl, hu1, hu2, hu3, hrs, hre, hI, hb2, hk⟩; obtain ⟨A0, c0, rfl⟩ := Kd.R_slice hrs; obtain ⟨A1, c1, rfl⟩ := Kd.R_slice hre; have HRS := Aside0.mk hrs; have HRE := Aside0.mk hre; have HI2 := Aside0.mk hI; have HBW := Aside0.mk hb2; clear hrs hre hI hb2 hk) | ((with_reducible refine gate_dst (N := 10) rfl ?_); refine Kd.R_lit Kd.string _ 9 ?hg (N := 10) ?hd (xs := [(⟨#[77, 97, 105, 110]⟩ : ByteArray), (⟨#[77, 97, 105, 110]⟩ : ByteArray), (⟨#[80, 97, 114, 116]⟩ : ByteArray), (⟨#[84, 111, 110, 101]⟩ : ByteArray), (⟨#[]⟩ : ByteArray)]) (inner := [.string (⟨#[77, 97, 105, 110]⟩ : ByteArray), .string (⟨#[77, 97, 105, 110]⟩ : ByteArray), .string (⟨#[80, 97, 114, 116]⟩ : ByteArray), .string (⟨#[84, 111, 110, 101]⟩ : ByteArray), .string (⟨#[]⟩ : ByteArray)]) (ok := fun _ => True) (okp := fun _ => True) ?hr ?hp (fun _ hk => hk) trivial (Below.refl _ _) (Nat.le_refl _) (by simp) ?_; (case hd => rfl); (case hg => rfl); (case hr => first | (go_simp; done) | (go_simp; rfl)); (case hp => exact ((Reps.one rfl (Reps.one rfl (Reps.one rfl (Reps.one rfl (Reps.one rfl (Reps.none _ _)))))))); intro v10 W3 hR10 hb10 hg_ hnew_; obtain ⟨A10, c10, rfl⟩ := Kd.R_slice hR10; have HI3 := Aside0.mk (HI2.out.below hb10); have HB3 := Aside0.mk (HBW.out.trans (hb10.mono HBW.out.size)); have HRS3 := Aside0.mk (Kd.R_below HRS.out hb10); have HRE3 := Aside0.mk (Kd.R_below HRE.out hb10); have HR10 := Aside0.mk hR10; clear hR10 hb10 hg_ hnew_) | (go_at_call 12; refine (ofx w1 W3 g (0 + 210) A10 c10 [(⟨#[77, 97, 105, 110]⟩ : ByteArray), (⟨#[77, 97, 105, 110]⟩ : ByteArray), (⟨#[80, 97, 114, 116]⟩ : ByteArray), (⟨#[84, 111, 110, 101]⟩ : ByteArray), (⟨#[]⟩ : ByteArray)] HI3.out HB3.out (by omega) (by simp) (by simp) (Kd.R_reads' HR10.out).2.2 (Kd.R_reads' HR10.out).2.1 (far_slice (HI3.out.ne HR10.out (by decide)))).mono ?_; rintro e W4 ⟨nm, rfl, hnm, hI4, hb4, hk4⟩; have HNM := Aside0.mk (show nm.size ≤ 20 from by simp only [List.mem_cons, List.not_mem_nil, or_false] at hnm; rcases hnm with rfl | rfl | rfl | rfl | rfl <;> decide); have HRS4 := Aside0.mk (HI3.out.row HRS3.out (by decide) hk4); have HRE4 := Aside0.mk (HI3.out.row HRE3.out (by decide) hk4); have hr : W4.heap[R]? = some (.cells #[.slice none 0 0, .slice none 0 0] 26 (0, 0)) := (hb4.block _ (blk_lt HR.out)).trans HR.out; have HB2 := Aside0.mk (HW.out.trans (hb4.mono HW.out.size)); have HR2 := Aside0.mk hr; have y2 : W4.cell? ⟨R, 0, none⟩ = some (.slice none 0 0) := (blk_cell hr 0).trans rfl; have y3 : W4.cell? ⟨R, 1, none⟩ = some (.slice none 0 0) := (blk_cell hr 1).trans rfl; have y4 := blk_frozen hr 0; have y5 := blk_frozen hr 1; clear hnm hI4 hb4 hk4 hr))
 refine bodyPost_ret (results_ct rfl _ _ R 26 #[.slice A0 us0.length c0, .slice A1 us1.length c1] (0, 0) _ rfl (blk_put (blk_put HR2.out 0 _ rfl) 1 _ rfl) Tryz.underlying26 rfl (by kernel_rfl)) rfl ?_
 have b1 := blk_put HR2.out 0 (.slice A0 us0.length c0) rfl
 have h0 := Kd.R_set (Kd.R_set HRS4.out HR2.out (by decide) 0 (.slice A0 us0.length c0)) b1 (by decide) 1 (.slice A1 us1.length c1)
 have h1 := Kd.R_set (Kd.R_set HRE4.out HR2.out (by decide) 0 (.slice A0 us0.length c0)) b1 (by decide) 1 (.slice A1 us1.length c1)
 obtain ⟨l0, l1, hs, hS, e0, e1⟩ := drawn_of (Kd.R_reads' h0).2.2 (by omega) (Kd.R_reads' h0).2.1 (Kd.R_reads' h1).2.2 (by omega) (Kd.R_reads' h1).2.1
 refine ⟨A0, c0, l0, A1, c1, l1, nm, ?_, hs, hS, by omega, HNM.out, below_set (below_set HB2.out HRL.out) HRL.out⟩
 show Ending.returned (.tuple #[.agg #[.slice A0 us0.length c0, .slice A1 us1.length c1], .string nm]) = .returned (.tuple #[.agg #[.slice A0 l0.length c0, .slice A1 l1.length c1], .string nm])
 rw [e0, e1]
end Go.Proofs.YtjeipkfeihahdaaGreatDoor
