/- No two fields stand in one place, but choices: the law's other ways, and the law. -/
import Derived.Test.YtjjcepnadjociaaDoorLemLayoutAll
import Derived.Test.YtjjcepnadjociaaDoorStubOf
import Derived.Test.YtjjcepnadjociaaDoorPx10
import Derived.Test.YtjjcepnadjociaaDoorPx19
import Derived.Test.YtjjcepnadjociaaDoorPx20
import Derived.Test.YtjjcepnadjociaaDoorPx9
import Derived.Deep.CutRange
import Derived.Deep.DeepCutAuto
namespace Go.Proofs.YtjjcepnadjociaaDoor
set_option linter.unusedVariables false
set_option linter.unusedSimpArgs false
open Go.RowKit Go.Proofs.YtjjcepnadjociaaDoor.Lem Go.Proofs.YtjjcepnadjociaaDoor.P Go.Proofs.YtjjcepnadjociaaDoorW.PrintWords Go.Proofs.YtjjcepnadjociaaDoorW.PrintLast Go.Proofs.YtjjcepnadjociaaDoorW.PrintMore
set_option maxHeartbeats 8000000 in
set_option maxRecDepth 100000 in
theorem of_no (k : Nat) (A0 : Option Addr) (c0 : Nat) (l0 : List Int) (t : List S27) (w : World) (hSB : SBw w) (hr0 : Kd.C (Kd.int .u8) w A0 l0.length l0) (hc0 : l0.length ≤ c0) (hd : spec_DrawLayoutOf.f k l0 = some t) (ht : t.length ≤ 13) (hk : 50 ≤ k) (hl0 : l0.length ≤ 1048576) (hok : okF t = false) :
    Calls Tryd.prog 9 #[.slice A0 l0.length c0] w fun e w' => e = .returned (.bool true) ∧ Below w.heap.size w w' := by
  have hdraw := spec_DrawLayoutOf.calls k A0 c0 l0 t w hr0 hc0 hd
  have hs0 := Aside0.mk hSB
  have himpl := implOf_no hok
  have hsok := specOk_f t (by omega) k (by omega)
  have hspec := (specOf_f t (by omega) k (by omega)).trans himpl
  have hqn := qn_f 0 0 [] 0 (by simp) k (by simp; omega)
  have hu30 := Tryd.underlying30
  have b0 : decide ((1048576 : Int) < (l0.length : Int)) = false := decide_eq_false (by omega)
  rw [hok] at hsok
  have HSO := Aside0.mk hsok
  have hiok : impl_FieldsOk.f t = some false := by rw [okF_f, hok]
  have HIO := Aside0.mk hiok
  clear hsok hiok
  have HT := Aside0.mk ht
  have H0 := Aside0.mk hl0
  have HI := Aside0.mk himpl
  have HS := Aside0.mk hspec
  have HQ := Aside0.mk hqn
  clear hSB hr0 hc0 hd ht hk hl0 himpl hspec hqn
  have HOK := Aside0.mk hok
  clear hok
  go_enter Tryd.func9, Tryd.ntmps9
  go_upto_region 5 with (first
    | (go_at_call 20; refine hdraw.mono ?_; rintro e w1 ⟨v, rfl, hR1, hB1⟩; obtain ⟨A2, c2, rfl⟩ := Kd.R_slice hR1; have hC1 := (Kd.R_reads' hR1).2; have HB1 := Aside0.mk hB1; have HC1 := Aside0.mk hC1; clear hR1 hB1 hC1)
    | (go_at_call 14; refine (impl_LayoutOf.calls A2 c2 t _ _ _ _ _ w1 (hs0.out.mv HB1.out) HC1.out.2 HC1.out.1 HI.out).mono ?_; rintro e w2 ⟨v, rfl, hR2, hB2⟩; obtain ⟨A3, c3, rfl⟩ := Kd.R_slice hR2; have HR2 := Aside0.mk (Kd.R_reads' hR2).2; have HB2 := Aside0.mk hB2; clear hR2 hB2)
    | go_in)
  obtain ⟨W3, hW3⟩ : ∃ W3, W3 = w2.alloc (.cells #[.int .i64 0, .int .i64 0, .slice A3 0 c3, .int .i64 0] 30) := ⟨_, rfl⟩
  have HW3 := Aside0.mk hW3
  have HB3 := Aside0.mk (show Below w.heap.size w W3 from by rw [hW3]; exact below_alloc (HB1.out.trans (HB2.out.mono HB1.out.size)) _)
  have HB31 := Aside0.mk (show Below w1.heap.size w1 W3 from by rw [hW3]; exact below_alloc HB2.out _)
  have HR3 := Aside0.mk (show 0 ≤ c3 ∧ Kd.C k34 W3 A3 ([] : Slots).length [] from by rw [hW3]; exact ⟨HR2.out.1, Kd.C_below HR2.out.2 (below_alloc (Below.refl _ _) _)⟩)
  have HBL := Aside0.mk (show W3.heap[w2.heap.size]? = some (.cells #[.int .i64 0, .int .i64 0, .slice A3 0 c3, .int .i64 0] 30 (0, 0)) from by rw [hW3]; simpa using heap_alloc_new w2 _)
  rw [← hW3]
  clear hW3
  have hcall := spec_LayoutOf.calls k A2 c2 t _ _ _ _ _ W3 (Kd.C_below HC1.out.2 HB31.out) HC1.out.1 HS.out
  go_upto_region 6 with (first
    | (go_at_call 21; refine hcall.mono ?_; rintro e w4 ⟨v, rfl, hR4, hB4⟩; obtain ⟨A4, c4, rfl⟩ := Kd.R_slice hR4; have HR4 := Aside0.mk (Kd.R_reads' hR4).2; have HB4 := Aside0.mk hB4; clear hR4 hB4 hcall)
    | go_in)
  obtain ⟨W5, hW5⟩ : ∃ W5, W5 = w4.alloc (.cells #[.int .i64 0, .int .i64 0, .slice A4 0 c4, .int .i64 0] 30) := ⟨_, rfl⟩
  have HB35 := Aside0.mk (show Below W3.heap.size W3 W5 from by rw [hW5]; exact below_alloc HB4.out _)
  have HR5 := Aside0.mk (show 0 ≤ c4 ∧ Kd.C k34 W5 A4 ([] : Slots).length [] from by rw [hW5]; exact ⟨HR4.out.1, Kd.C_below HR4.out.2 (below_alloc (Below.refl _ _) _)⟩)
  have bl5 : W5.heap[w4.heap.size]? = some (.cells #[.int .i64 0, .int .i64 0, .slice A4 0 c4, .int .i64 0] 30 (0, 0)) := by rw [hW5]; simpa using heap_alloc_new w4 _
  rw [← hW5]
  clear hW5
  have bl3 : W5.heap[w2.heap.size]? = some (.cells #[.int .i64 0, .int .i64 0, .slice A3 0 c3, .int .i64 0] 30 (0, 0)) := (HB35.out.block _ (by have := (Array.getElem?_eq_some_iff.mp HBL.out).1; exact this)).trans HBL.out
  have p0 : W5.cell? ⟨w2.heap.size, 0, none⟩ = some (.int .i64 0) := (blk_cell bl3 0).trans rfl
  have p1 : W5.cell? ⟨w2.heap.size, 1, none⟩ = some (.int .i64 0) := (blk_cell bl3 1).trans rfl
  have p2 : W5.cell? ⟨w2.heap.size, 2, none⟩ = some (.slice A3 0 c3) := (blk_cell bl3 2).trans rfl
  have p3 : W5.cell? ⟨w2.heap.size, 3, none⟩ = some (.int .i64 0) := (blk_cell bl3 3).trans rfl
  have q0 : W5.cell? ⟨w4.heap.size, 0, none⟩ = some (.int .i64 0) := (blk_cell bl5 0).trans rfl
  have q1 : W5.cell? ⟨w4.heap.size, 1, none⟩ = some (.int .i64 0) := (blk_cell bl5 1).trans rfl
  have q2 : W5.cell? ⟨w4.heap.size, 2, none⟩ = some (.slice A4 0 c4) := (blk_cell bl5 2).trans rfl
  have q3 : W5.cell? ⟨w4.heap.size, 3, none⟩ = some (.int .i64 0) := (blk_cell bl5 3).trans rfl
  have hcall := fun (W : World) (hb : Below W5.heap.size W5 W) => laws_qnLayout.calls k 0 0 A3 c3 [] 0 0 0 A4 c4 [] 0 true W (Kd.C_below (Kd.C_below HR3.out.2 HB35.out) hb) HR3.out.1 (Kd.C_below HR5.out.2 hb) HR5.out.1 HQ.out
  have HBL5 := Aside0.mk bl3
  have HBM5 := Aside0.mk bl5
  clear bl3 bl5
  have BW5 := Aside0.mk (HB3.out.trans (HB35.out.mono HB3.out.size))
  have B15 := Aside0.mk (HB31.out.trans (HB35.out.mono HB31.out.size))
  have hifo := fun (W : World) (hb : Below W5.heap.size W5 W) => impl_FieldsOk.calls A2 c2 t false W (hs0.out.mv (BW5.out.trans (hb.mono BW5.out.size))) (Kd.C_below HC1.out.2 (B15.out.trans (hb.mono B15.out.size))) HC1.out.1 HIO.out
  have hsfo := fun (W : World) (hb : Below W5.heap.size W5 W) => spec_FieldsOk.calls k A2 c2 t false W (Kd.C_below HC1.out.2 (B15.out.trans (hb.mono B15.out.size))) HC1.out.1 HSO.out
  go_upto_region 7 with (first
    | (go_at_call 22; refine (hcall _ (Below.refl _ _)).mono ?_; rintro e w6 ⟨rfl, hB6⟩; have HB6 := Aside0.mk hB6; clear hB6 p0 p1 p2 p3 q0 q1 q2 q3)
    | (go_at_call 12; refine (hifo _ HB6.out).mono ?_; rintro e w7 ⟨rfl, hB7⟩; have HB7 := Aside0.mk (HB6.out.trans (hB7.mono HB6.out.size)); clear hB7)
    | (go_at_call 13; refine (hsfo _ HB7.out).mono ?_; rintro e w8 ⟨rfl, hB8⟩; have HB8 := Aside0.mk (HB7.out.trans (hB8.mono HB7.out.size)); clear hB8)
    | go_in)
  have bl3 := (HB8.out.block _ (Array.getElem?_eq_some_iff.mp HBL5.out).1).trans HBL5.out
  have bl5 := (HB8.out.block _ (Array.getElem?_eq_some_iff.mp HBM5.out).1).trans HBM5.out
  have p0 : w8.cell? ⟨w2.heap.size, 0, none⟩ = some (.int .i64 0) := (blk_cell bl3 0).trans rfl
  have p1 : w8.cell? ⟨w2.heap.size, 1, none⟩ = some (.int .i64 0) := (blk_cell bl3 1).trans rfl
  have p2 : w8.cell? ⟨w2.heap.size, 2, none⟩ = some (.slice A3 0 c3) := (blk_cell bl3 2).trans rfl
  have p3 : w8.cell? ⟨w2.heap.size, 3, none⟩ = some (.int .i64 0) := (blk_cell bl3 3).trans rfl
  have q0 : w8.cell? ⟨w4.heap.size, 0, none⟩ = some (.int .i64 0) := (blk_cell bl5 0).trans rfl
  have q1 : w8.cell? ⟨w4.heap.size, 1, none⟩ = some (.int .i64 0) := (blk_cell bl5 1).trans rfl
  have q2 : w8.cell? ⟨w4.heap.size, 2, none⟩ = some (.slice A4 0 c4) := (blk_cell bl5 2).trans rfl
  have q3 : w8.cell? ⟨w4.heap.size, 3, none⟩ = some (.int .i64 0) := (blk_cell bl5 3).trans rfl
  clear bl3 bl5
  go_wp2_with (first
    | (go_at_call 22; refine (hcall _ HB8.out).mono ?_; rintro e w9 ⟨rfl, hB9⟩; have HB9 := Aside0.mk (HB8.out.trans (hB9.mono HB8.out.size)); clear hB9)
    | (go_at_call 12; refine (hifo _ HB9.out).mono ?_; rintro e w10 ⟨rfl, hB10⟩; have HB10 := Aside0.mk (HB9.out.trans (hB10.mono HB9.out.size)); clear hB10)
    | (go_at_call 13; refine (hsfo _ HB10.out).mono ?_; rintro e w11 ⟨rfl, hB11⟩; have HB11 := Aside0.mk (HB10.out.trans (hB11.mono HB10.out.size)); clear hB11)
    | go_in)
  go_ret
  exact ⟨rfl, BW5.out.trans (HB11.out.mono BW5.out.size)⟩
set_option maxHeartbeats 4000000 in
set_option maxRecDepth 100000 in
theorem of_long (A0 : Option Addr) (c0 : Nat) (l0 : List Int) (w : World) (h : 1048576 < l0.length) :
    Calls Tryd.prog 9 #[.slice A0 l0.length c0] w fun e w' => e = .returned (.bool true) ∧ Below w.heap.size w w' := by
  have b0 : decide ((1048576 : Int) < (l0.length : Int)) = true := decide_eq_true (by omega)
  clear h
  go_enter Tryd.func9, Tryd.ntmps9
  go_wp2
  go_ret
  exact ⟨rfl, Below.refl _ _⟩
namespace P
theorem laws_FnLayoutOf.walk (a0 : Option Addr) (len0 cap0 : Nat) (z0 : List Int) (w : World) (hSB : SBw w) (w0 : (a0 = none ∧ len0 = 0 ∧ cap0 = 0 ∧ z0 = []) ∨ ∃ x, a0 = some x ∧ len0 ≤ cap0 ∧ cap0 ≤ maxLen ∧ z0.length = cap0 ∧ (∀ i, i < z0.length → w.cell? (x.add i) = some (.int .u8 (z0.getD i 0))) ∧ ∀ n ∈ z0, (Lit.int .u8 n).wf = true) :
    Calls Tryd.prog 9 #[.slice a0 len0 cap0] w fun e w' => e = .returned (.bool true) ∧ Below w.heap.size w w' := by
  obtain ⟨l0, rfl, hr0, hm0, hw0, hc0⟩ := ReadsInt.ofRowC w0
  by_cases h : 1048576 < l0.length
  · exact of_long a0 cap0 l0 w h
  · obtain ⟨k, hk⟩ : ∃ k : Nat, 50 ≤ k := ⟨50, Nat.le_refl _⟩
    obtain ⟨t, hd, ht⟩ := drawOf_f l0 hw0 k (by omega)
    have hC := Kd.C_of_reads (d := (0 : Int)) (h1 := fun _ => rfl) hr0
    by_cases hok : okF t = true
    · exact of_calls k a0 cap0 l0 t w hSB hC hc0 hd ht hk (by omega) hok
    · exact of_no k a0 cap0 l0 t w hSB hC hc0 hd ht hk (by omega) (by simpa using hok)
end P
end Go.Proofs.YtjjcepnadjociaaDoor
