/- The draw of a law about a schema, walked: what is drawn is a small schema. -/
import Derived.Test.YtjeipkfeihahdaaDoorStubAny2
import Derived.Test.YtjeipkfeihahdaaDoorStubLaw
namespace Go.Proofs.YtjeipkfeihahdaaDoor
set_option linter.unusedVariables false
set_option linter.unusedSimpArgs false
open Go.RowKit Go.Proofs.YtjeipkfeihahdaaDoor.P Go.Proofs.YtjeipkfeihahdaaDoor.Lem Go.Proofs.YtjeipkfeihahdaaDoorW.PrintWords Go.Proofs.YtjeipkfeihahdaaDoorW.PrintLast Go.Proofs.YtjeipkfeihahdaaDoorW.PrintMore
set_option maxHeartbeats 4000000 in
set_option maxRecDepth 100000 in
theorem draw_calls (A : Option Addr) (c : Nat) (l : List Int) (w : World) (hl : ∀ x ∈ l, (Lit.int .u8 x).wf = true) (hA : Kd.C (Kd.int .u8) w A l.length l) (hc : l.length ≤ c) :
    Calls Tryd.prog 4 #[.slice A l.length c] w (DrawnQ w) := by
  obtain ⟨b, hb, hby⟩ := open_f l hl
  have HA := Aside0.mk hA
  have HBY := Aside0.mk hby
  have HC := Aside0.mk hc
  have HOP := Aside0.mk hb
  clear hA hc hby hb
  unfold DrawnQ
  go_enter Tryd.func4, Tryd.ntmps4
  go_upto_region 1 with fail
  obtain ⟨R, hR⟩ : ∃ R, R = w.heap.size := ⟨_, rfl⟩
  obtain ⟨w1, hw1⟩ : ∃ w1, w1 = w.alloc zSch := ⟨_, rfl⟩
  have HW := Aside0.mk (show Below w.heap.size w w1 from by rw [hw1]; exact below_alloc (Below.refl _ _) _)
  have HR := Aside0.mk (show w1.heap[R]? = some zSch from by rw [hw1, hR]; exact heap_alloc_new w _)
  have HRL := Aside0.mk (show w.heap.size ≤ R from by rw [hR]; exact Nat.le_refl _)
  have HA1 := Aside0.mk (show Kd.C (Kd.int .u8) w1 A l.length l from by rw [hw1]; exact Kd.C_alloc HA.out _)
  rw [← hw1, ← hR]
  clear hR hw1 HA
  go_wp2_with (first | (go_at_call 8; refine (spec_l1Open.calls A c l b 0 w1 w1 (Below.refl _ _) HA1.out HC.out HOP.out).mono ?_; rintro e W1 ⟨g, rfl, hIS, hb1, _⟩; have HIS := Aside0.mk hIS; have HB1 := Aside0.mk hb1; clear hIS hb1) | (go_at_call 7; refine (anyx w1 W1 g 0 ⟨b, 0, HIS.out, HBY.out, Int.le_refl _, Int.le_refl _⟩ HB1.out (by omega)).mono ?_; rintro e W2 ⟨v0, v1, us0, us1, rfl, hu1, hu2, hu3, hrs, hre, hI, hb2, hk⟩; obtain ⟨A0, c0, rfl⟩ := Kd.R_slice hrs; obtain ⟨A1, c1, rfl⟩ := Kd.R_slice hre; have HRS := Aside0.mk hrs; have HRE := Aside0.mk hre; have hr : W2.heap[R]? = some (.cells #[.slice none 0 0, .slice none 0 0] 26 (0, 0)) := (hb2.block _ (blk_lt HR.out)).trans HR.out; have HB2 := Aside0.mk (HW.out.trans (hb2.mono HW.out.size)); have HR2 := Aside0.mk hr; have y2 : W2.cell? ⟨R, 0, none⟩ = some (.slice none 0 0) := (blk_cell hr 0).trans rfl; have y3 : W2.cell? ⟨R, 1, none⟩ = some (.slice none 0 0) := (blk_cell hr 1).trans rfl; have y4 := blk_frozen hr 0; have y5 := blk_frozen hr 1; clear hrs hre hI hb2 hk hr))
  refine bodyPost_ret (results_cell_row rfl _ _ R 26 #[.slice A0 us0.length c0, .slice A1 us1.length c1] (0, 0) _ rfl (blk_put (blk_put HR2.out 0 _ rfl) 1 _ rfl) Tryd.underlying26 rfl (by kernel_rfl)) rfl ?_
  have b1 := blk_put HR2.out 0 (.slice A0 us0.length c0) rfl
  have h0 := Kd.R_set (Kd.R_set HRS.out HR2.out (by decide) 0 (.slice A0 us0.length c0)) b1 (by decide) 1 (.slice A1 us1.length c1)
  have h1 := Kd.R_set (Kd.R_set HRE.out HR2.out (by decide) 0 (.slice A0 us0.length c0)) b1 (by decide) 1 (.slice A1 us1.length c1)
  obtain ⟨l0, l1, hs, hS, e0, e1⟩ := drawn_of (Kd.R_reads' h0).2.2 (by omega) (Kd.R_reads' h0).2.1 (Kd.R_reads' h1).2.2 (by omega) (Kd.R_reads' h1).2.1
  refine ⟨A0, c0, l0, A1, c1, l1, ?_, hs, hS, by omega, below_set (below_set HB2.out HRL.out) HRL.out⟩
  show Ending.returned (.agg #[.slice A0 us0.length c0, .slice A1 us1.length c1]) = .returned (.agg #[.slice A0 l0.length c0, .slice A1 l1.length c1])
  rw [e0, e1]
end Go.Proofs.YtjeipkfeihahdaaDoor
