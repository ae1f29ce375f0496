/- A field more leaves all others where they are: the law, walked. -/
import Derived.Test.YtjjcepnadjociaaDoorLemLayoutAll
import Derived.Test.YtjjcepnadjociaaDoorPx10
import Derived.Test.YtjjcepnadjociaaDoorPx19
import Derived.Test.YtjjcepnadjociaaDoorPx20
import Derived.Deep.CutRange
import Derived.Deep.DeepCutAuto
namespace Go.Proofs.YtjjcepnadjociaaDoor
set_option linter.unusedVariables false
set_option linter.unusedSimpArgs false
open Go.RowKit Go.Proofs.YtjjcepnadjociaaDoor.Lem Go.Proofs.YtjjcepnadjociaaDoor.P Go.Proofs.YtjjcepnadjociaaDoorW.PrintWords Go.Proofs.YtjjcepnadjociaaDoorW.PrintLast Go.Proofs.YtjjcepnadjociaaDoorW.PrintMore
theorem slot_take (t : List S27) (q i : Nat) (hi : i < q ∧ i < t.length) : (rd_T34 (slotsOf (t.take q)) (i : Int)).f0 = (rd_T34 (slotsOf t) (i : Int)).f0 := by
  have e : layS t = ((layS (t.take q)).1 ++ (layP (layS (t.take q)).2 ((t.drop q).map fieldP)).1, (layP (layS (t.take q)).2 ((t.drop q).map fieldP)).2) := by
    unfold layS
    rw [← layP_append, ← List.map_append, List.take_append_drop]
  have hn : (layS (t.take q)).1.length = (t.take q).length := by unfold layS; rw [layP_length, List.length_map]
  have hl : i < (layS (t.take q)).1.length := by rw [hn, List.length_take]; omega
  unfold slotsOf rd_T34
  rw [e, Int.toNat_natCast, List.map_append, List.getD_eq_getElem?_getD, List.getD_eq_getElem?_getD, List.getElem?_append_left (by rw [List.length_map]; exact hl)]
theorem lay_prefix (t : List S27) (q : Nat) : (layS (t.take q)).2.words ≤ (layS t).2.words ∧ (layS (t.take q)).2.ptrs ≤ (layS t).2.ptrs ∧ ((layS (t.take q)).2.tag < 0 ∨ (layS (t.take q)).2.tag = (layS t).2.tag) := by
  have e : layS t = ((layS (t.take q)).1 ++ (layP (layS (t.take q)).2 ((t.drop q).map fieldP)).1, (layP (layS (t.take q)).2 ((t.drop q).map fieldP)).2) := by
    unfold layS
    rw [← layP_append, ← List.map_append, List.take_append_drop]
  obtain ⟨B, F⟩ := laid_finv (t.take q)
  obtain ⟨a, b, c⟩ := lay_grows ((t.drop q).map fieldP) (layS (t.take q)).2
  rw [e]
  refine ⟨a, b, ?_⟩
  rcases Int.lt_or_le (layS (t.take q)).2.choices 2 with h | h
  · exact .inl (by rw [F.tagn.1 h]; decide)
  · exact .inr (c h).symm
theorem okF_take {t : List S27} (h : okF t = true) (q : Nat) : okF (t.take q) = true := by
  unfold okF at h ⊢
  rw [Bool.and_eq_true, decide_eq_true_eq, Bool.not_eq_true', List.any_eq_false] at h ⊢
  exact ⟨by have := List.length_take (i := q) (l := t); omega, fun f hf => h.2 f (List.mem_of_mem_take hf)⟩
set_option maxHeartbeats 4000000 in
set_option maxRecDepth 100000 in
theorem grows_calls (k : Nat) (A0 A1 : Option Addr) (c0 c1 : Nat) (l0 l1 : List Int) (t : List S27) (w : World) (hSB : SBw w) (hr0 : Kd.C (Kd.int .u8) w A0 l0.length l0) (hc0 : l0.length ≤ c0) (hc1 : l1.length ≤ c1) (hd : spec_DrawLayoutOf.f k l0 = some t) (ht : t.length ≤ 13) (hk : 50 ≤ k) (hl0 : l0.length ≤ 1048576) (hl1 : l1.length ≤ 1048576) (hok : okF t = true) :
    Calls Tryd.prog 5 #[.slice A0 l0.length c0, .slice A1 l1.length c1] w fun e w' => e = .returned (.bool true) ∧ Below w.heap.size w w' := by
  have hdraw := spec_DrawLayoutOf.calls k A0 c0 l0 t w hr0 hc0 hd
  have hs0 := Aside0.mk hSB
  have hz := layout_f hok
  have himpl := implOf_ok hok
  have hspec := (specOf_f t (by omega) k (by omega)).trans himpl
  have hqn := qn_f (layS t).2.words (layS t).2.ptrs (slotsOf t) (layS t).2.tag (by rw [slotsOf_length]; omega) k (by rw [slotsOf_length]; omega)
  have hu30 := Tryd.underlying30
  have b0 : decide ((1048576 : Int) < (l0.length : Int)) = false := decide_eq_false (by omega)
  have b1 : decide ((1048576 : Int) < (l1.length : Int)) = false := decide_eq_false (by omega)
  have HT := Aside0.mk ht
  have H0 := Aside0.mk hl0
  have H1 := Aside0.mk hl1
  have HI := Aside0.mk himpl
  have HS := Aside0.mk hspec
  have HQ := Aside0.mk hqn
  clear hSB hr0 hc0 hc1 hd ht hk hl0 hl1 hz himpl hspec hqn
  have HOK := Aside0.mk hok
  clear hok
  obtain ⟨a, ha⟩ : ∃ a, a = (layS t).2.words := ⟨_, rfl⟩
  obtain ⟨b, hb⟩ : ∃ b, b = (layS t).2.ptrs := ⟨_, rfl⟩
  obtain ⟨g, hg⟩ : ∃ g, g = (layS t).2.tag := ⟨_, rfl⟩
  obtain ⟨xs, hxs⟩ : ∃ xs, xs = slotsOf t := ⟨_, rfl⟩
  rw [← ha, ← hb, ← hg, ← hxs] at HI HS HQ
  have HA := Aside0.mk ha
  have HB := Aside0.mk hb
  have HG := Aside0.mk hg
  have HX := Aside0.mk hxs
  clear ha hb hg hxs
  go_enter Tryd.func5, Tryd.ntmps5
  go_upto_region 5 with (first
    | (go_at_call 20; refine hdraw.mono ?_; rintro e w1 ⟨v, rfl, hR1, hB1⟩; obtain ⟨A2, c2, rfl⟩ := Kd.R_slice hR1; have hC1 := (Kd.R_reads' hR1).2; have HB1 := Aside0.mk hB1; have HC1 := Aside0.mk hC1; clear hR1 hB1 hC1)
    | (go_at_call 14; refine (impl_LayoutOf.calls A2 c2 t _ _ _ _ _ w1 (hs0.out.mv HB1.out) HC1.out.2 HC1.out.1 HI.out).mono ?_; rintro e w2 ⟨v, rfl, hR2, hB2⟩; obtain ⟨A3, c3, rfl⟩ := Kd.R_slice hR2; have HR2 := Aside0.mk (Kd.R_reads' hR2).2; have HB2 := Aside0.mk hB2; clear hR2 hB2)
    | go_in)
  obtain ⟨W3, hW3⟩ : ∃ W3, W3 = w2.alloc (.cells #[.int .i64 a, .int .i64 b, .slice A3 xs.length c3, .int .i64 g] 30) := ⟨_, rfl⟩
  have HW3 := Aside0.mk hW3
  have HB3 := Aside0.mk (show Below w.heap.size w W3 from by rw [hW3]; exact below_alloc (HB1.out.trans (HB2.out.mono HB1.out.size)) _)
  have HB31 := Aside0.mk (show Below w1.heap.size w1 W3 from by rw [hW3]; exact below_alloc HB2.out _)
  have HR3 := Aside0.mk (show xs.length ≤ c3 ∧ Kd.C k34 W3 A3 xs.length xs from by rw [hW3]; exact ⟨HR2.out.1, Kd.C_below HR2.out.2 (below_alloc (Below.refl _ _) _)⟩)
  have HBL := Aside0.mk (show W3.heap[w2.heap.size]? = some (.cells #[.int .i64 a, .int .i64 b, .slice A3 xs.length c3, .int .i64 g] 30 (0, 0)) from by rw [hW3]; simpa using heap_alloc_new w2 _)
  rw [← hW3]
  clear hW3
  have hcall := spec_LayoutOf.calls k A2 c2 t _ _ _ _ _ W3 (Kd.C_below HC1.out.2 HB31.out) HC1.out.1 HS.out
  go_upto_region 6 with (first
    | (go_at_call 21; refine hcall.mono ?_; rintro e w4 ⟨v, rfl, hR4, hB4⟩; obtain ⟨A4, c4, rfl⟩ := Kd.R_slice hR4; have HR4 := Aside0.mk (Kd.R_reads' hR4).2; have HB4 := Aside0.mk hB4; clear hR4 hB4 hcall)
    | go_in)
  obtain ⟨W5, hW5⟩ : ∃ W5, W5 = w4.alloc (.cells #[.int .i64 a, .int .i64 b, .slice A4 xs.length c4, .int .i64 g] 30) := ⟨_, rfl⟩
  have HB35 := Aside0.mk (show Below W3.heap.size W3 W5 from by rw [hW5]; exact below_alloc HB4.out _)
  have HR5 := Aside0.mk (show xs.length ≤ c4 ∧ Kd.C k34 W5 A4 xs.length xs from by rw [hW5]; exact ⟨HR4.out.1, Kd.C_below HR4.out.2 (below_alloc (Below.refl _ _) _)⟩)
  have bl5 : W5.heap[w4.heap.size]? = some (.cells #[.int .i64 a, .int .i64 b, .slice A4 xs.length c4, .int .i64 g] 30 (0, 0)) := by rw [hW5]; simpa using heap_alloc_new w4 _
  rw [← hW5]
  clear hW5
  have bl3 : W5.heap[w2.heap.size]? = some (.cells #[.int .i64 a, .int .i64 b, .slice A3 xs.length c3, .int .i64 g] 30 (0, 0)) := (HB35.out.block _ (by have := (Array.getElem?_eq_some_iff.mp HBL.out).1; exact this)).trans HBL.out
  have p0 : W5.cell? ⟨w2.heap.size, 0, none⟩ = some (.int .i64 a) := (blk_cell bl3 0).trans rfl
  have p1 : W5.cell? ⟨w2.heap.size, 1, none⟩ = some (.int .i64 b) := (blk_cell bl3 1).trans rfl
  have p2 : W5.cell? ⟨w2.heap.size, 2, none⟩ = some (.slice A3 xs.length c3) := (blk_cell bl3 2).trans rfl
  have p3 : W5.cell? ⟨w2.heap.size, 3, none⟩ = some (.int .i64 g) := (blk_cell bl3 3).trans rfl
  have q0 : W5.cell? ⟨w4.heap.size, 0, none⟩ = some (.int .i64 a) := (blk_cell bl5 0).trans rfl
  have q1 : W5.cell? ⟨w4.heap.size, 1, none⟩ = some (.int .i64 b) := (blk_cell bl5 1).trans rfl
  have q2 : W5.cell? ⟨w4.heap.size, 2, none⟩ = some (.slice A4 xs.length c4) := (blk_cell bl5 2).trans rfl
  have q3 : W5.cell? ⟨w4.heap.size, 3, none⟩ = some (.int .i64 g) := (blk_cell bl5 3).trans rfl
  have hcall := laws_qnLayout.calls k a b A3 c3 xs g a b A4 c4 xs g true W5 (Kd.C_below HR3.out.2 HB35.out) HR3.out.1 HR5.out.2 HR5.out.1 HQ.out
  have HBL5 := Aside0.mk bl3
  clear bl3 bl5
  obtain ⟨q, hq⟩ : ∃ q : Nat, q = l1.length % (t.length + 1) := ⟨_, rfl⟩
  have hq2 : q ≤ t.length := by rw [hq]; have := Nat.mod_lt l1.length (show 0 < t.length + 1 by omega); omega
  have HQ2 := Aside0.mk hq2
  have hmod : Int.tmod (l1.length : Int) ((t.length : Int) + 1) = (q : Int) := by rw [Int.tmod_eq_emod_of_nonneg (by omega), hq, Int.natCast_emod, Int.natCast_add]; rfl
  have hw1 : wrap64 ((t.length : Int) + 1) = (t.length : Int) + 1 := w64 (by have := HT.out; omega) (by have := HT.out; omega)
  clear hq hq2
  go_upto_region 9 with (first
    | (go_at_call 22; refine hcall.mono ?_; rintro e w6 ⟨rfl, hB6⟩; have HB6 := Aside0.mk hB6; clear hB6 hcall p0 p1 p2 p3 q0 q1 q2 q3)
    | go_in)
  clear hmod hw1
  have hq3 : (t.take q).length = q := by rw [List.length_take]; exact Nat.min_eq_left HQ2.out
  have hokq : okF (t.take q) = true := okF_take HOK.out q
  have B16 := Aside0.mk (HB31.out.trans ((HB35.out.trans (HB6.out.mono HB35.out.size)).mono HB31.out.size))
  have BW6 := Aside0.mk (HB1.out.trans (B16.out.mono HB1.out.size))
  have hC6 := Kd.C_take (Kd.C_below HC1.out.2 B16.out) HQ2.out
  have hcall := impl_LayoutOf.calls A2 c2 (t.take q) _ _ _ _ _ w6 (hs0.out.mv BW6.out) hC6 (by rw [hq3]; exact Nat.le_trans HQ2.out HC1.out.1) (implOf_ok hokq)
  rw [hq3] at hcall
  obtain ⟨a', ha⟩ : ∃ a, a = (layS (t.take q)).2.words := ⟨_, rfl⟩
  obtain ⟨b', hb⟩ : ∃ b, b = (layS (t.take q)).2.ptrs := ⟨_, rfl⟩
  obtain ⟨g', hg⟩ : ∃ g, g = (layS (t.take q)).2.tag := ⟨_, rfl⟩
  obtain ⟨ys, hys⟩ : ∃ xs, xs = slotsOf (t.take q) := ⟨_, rfl⟩
  rw [← ha, ← hb, ← hg, ← hys] at hcall
  have HA' := Aside0.mk ha
  have HB' := Aside0.mk hb
  have HG' := Aside0.mk hg
  have HY := Aside0.mk hys
  have HQ3 := Aside0.mk hq3
  have hcq : (q : Int) ≤ (c2 : Int) := by have := HC1.out.1; have := HQ2.out; omega
  have hcq2 : q ≤ c2 := by omega
  clear ha hb hg hys hq3 hokq hC6
  go_upto_region 10 with (first
    | (go_at_call 14; refine hcall.mono ?_; rintro e w7 ⟨v, rfl, hR7, hB7⟩; obtain ⟨A7, c7, rfl⟩ := Kd.R_slice hR7; have HR7 := Aside0.mk (Kd.R_reads' hR7).2; have HB7 := Aside0.mk hB7; clear hR7 hB7 hcall)
    | go_in)
  obtain ⟨W8, hW8⟩ : ∃ W8, W8 = w7.alloc (.cells #[.int .i64 a', .int .i64 b', .slice A7 ys.length c7, .int .i64 g'] 30) := ⟨_, rfl⟩
  have HB68 := Aside0.mk (show Below w6.heap.size w6 W8 from by rw [hW8]; exact below_alloc HB7.out _)
  have HR8 := Aside0.mk (show ys.length ≤ c7 ∧ Kd.C k34 W8 A7 ys.length ys from by rw [hW8]; exact ⟨HR7.out.1, Kd.C_below HR7.out.2 (below_alloc (Below.refl _ _) _)⟩)
  have HBM := Aside0.mk (show W8.heap[w7.heap.size]? = some (.cells #[.int .i64 a', .int .i64 b', .slice A7 ys.length c7, .int .i64 g'] 30 (0, 0)) from by rw [hW8]; simpa using heap_alloc_new w7 _)
  rw [← hW8]
  clear hW8 HR7
  have B58 := Aside0.mk (HB6.out.trans (HB68.out.mono HB6.out.size))
  have HBL8 := Aside0.mk ((B58.out.block _ (Array.getElem?_eq_some_iff.mp HBL5.out).1).trans HBL5.out)
  have HR38 := Aside0.mk (Kd.C_below (Kd.C_below HR3.out.2 HB35.out) B58.out)
  have BW8 := Aside0.mk (BW6.out.trans (HB68.out.mono BW6.out.size))
  clear HBL HBL5 HR3 HR5 HR2 HR4 HB31 HB35 HB3 HB4 HB2 HB7 B16 BW6 HB68 hcq hcq2 B58
  go_wp2
  go_loopg [13] q (fun gg s13 wr => ∃ i : Nat, s13 = .int .i64 i ∧ Aside0 (i ≤ q ∧ q - i ≤ gg) ∧ Aside0 (Below W8.heap.size W8 wr))
  case atStart => exact ⟨0, rfl, ⟨Nat.zero_le _, by omega⟩, ⟨Below.refl _ _⟩⟩
  case round =>
    obtain ⟨i, rfl, HK, HBr⟩ := hrel
    by_cases hlt : i < q
    · have hltz : (i : Int) < (q : Int) := by omega
      have hys : ys.length = q := by rw [HY.out, slotsOf_length, HQ3.out]
      have hxs : xs.length = t.length := by rw [HX.out, slotsOf_length]
      have hq2 := HQ2.out
      have h1 : i < ys.length := by omega
      have h2 : i < xs.length := by omega
      obtain ⟨ad1, e1, x1⟩ := at_T34 (Kd.C_below HR8.out.2 HBr.out) (i : Int) (by omega) (by omega)
      obtain ⟨ad2, e2, x2⟩ := at_T34 (Kd.C_below HR38.out HBr.out) (i : Int) (by omega) (by omega)
      subst e1 e2
      rw [Int.toNat_natCast] at x1 x2
      have he : (rd_T34 ys (i : Int)).f0 = (rd_T34 xs (i : Int)).f0 := by rw [HY.out, HX.out]; exact slot_take t q i (by omega)
      rw [he] at x1
      generalize (rd_T34 xs (i : Int)).f0 = z at *
      have d2 : wr.cell? ⟨w7.heap.size, 2, none⟩ = some (.slice (some ad1) ys.length c7) := (HBr.out.cell (World.block_lt_of_cell? W8 _ ((blk_cell HBM.out 2).trans rfl))).trans ((blk_cell HBM.out 2).trans rfl)
      have d3 : wr.cell? ⟨w2.heap.size, 2, none⟩ = some (.slice (some ad2) xs.length c3) := (HBr.out.cell (World.block_lt_of_cell? W8 _ ((blk_cell HBL8.out 2).trans rfl))).trans ((blk_cell HBL8.out 2).trans rfl)
      have h1z : (i : Int) < (ys.length : Int) := by omega
      have h2z : (i : Int) < (xs.length : Int) := by omega
      clear he hys hxs hq2 h1 h2 hlt
      go_wp2
      repeat (go_quiet (fail); try go_wp2)
      have hw := w64 (n := (i : Int) + 1) (by have := HQ2.out; have := HT.out; omega) (by have := HQ2.out; have := HT.out; omega)
      go_roundg (q - (i + 1))
      case measure => have := HK.out; omega
      case rel => exact ⟨i + 1, by rw [hw]; rfl, ⟨by omega, by omega⟩, ⟨by repeat (first | exact HBr.out | apply pw_below_drewN | apply below_drew1)⟩⟩
    · have hltz : ¬ (i : Int) < (q : Int) := by omega
      have d0 : wr.cell? ⟨w7.heap.size, 0, none⟩ = some (.int .i64 a') := (HBr.out.cell (World.block_lt_of_cell? W8 _ ((blk_cell HBM.out 0).trans rfl))).trans ((blk_cell HBM.out 0).trans rfl)
      have d1 : wr.cell? ⟨w7.heap.size, 1, none⟩ = some (.int .i64 b') := (HBr.out.cell (World.block_lt_of_cell? W8 _ ((blk_cell HBM.out 1).trans rfl))).trans ((blk_cell HBM.out 1).trans rfl)
      have d3 : wr.cell? ⟨w7.heap.size, 3, none⟩ = some (.int .i64 g') := (HBr.out.cell (World.block_lt_of_cell? W8 _ ((blk_cell HBM.out 3).trans rfl))).trans ((blk_cell HBM.out 3).trans rfl)
      have f0 : wr.cell? ⟨w2.heap.size, 0, none⟩ = some (.int .i64 a) := (HBr.out.cell (World.block_lt_of_cell? W8 _ ((blk_cell HBL8.out 0).trans rfl))).trans ((blk_cell HBL8.out 0).trans rfl)
      have f1 : wr.cell? ⟨w2.heap.size, 1, none⟩ = some (.int .i64 b) := (HBr.out.cell (World.block_lt_of_cell? W8 _ ((blk_cell HBL8.out 1).trans rfl))).trans ((blk_cell HBL8.out 1).trans rfl)
      have f3 : wr.cell? ⟨w2.heap.size, 3, none⟩ = some (.int .i64 g) := (HBr.out.cell (World.block_lt_of_cell? W8 _ ((blk_cell HBL8.out 3).trans rfl))).trans ((blk_cell HBL8.out 3).trans rfl)
      obtain ⟨G1, G2, G3⟩ := lay_prefix t q
      rw [← HA'.out, ← HA.out] at G1
      rw [← HB'.out, ← HB.out] at G2
      rw [← HG'.out, ← HG.out] at G3
      clear hlt
      have e1 := decide_eq_true G1
      have e2 := decide_eq_true G2
      by_cases hn : g' < 0
      · have e3 := decide_eq_true hn
        clear hn G1 G2 G3
        go_wp2
        go_ret
        exact ⟨rfl, BW8.out.trans (HBr.out.mono BW8.out.size)⟩
      · have e3 := decide_eq_false hn
        have e4 : g' = g := G3.resolve_left hn
        subst e4
        clear hn G1 G2 G3
        go_wp2
        go_ret
        exact ⟨rfl, BW8.out.trans (HBr.out.mono BW8.out.size)⟩
set_option maxHeartbeats 4000000 in
set_option maxRecDepth 100000 in
theorem grows_no (k : Nat) (A0 A1 : Option Addr) (c0 c1 : Nat) (l0 l1 : List Int) (t : List S27) (w : World) (hSB : SBw w) (hr0 : Kd.C (Kd.int .u8) w A0 l0.length l0) (hc0 : l0.length ≤ c0) (hc1 : l1.length ≤ c1) (hd : spec_DrawLayoutOf.f k l0 = some t) (ht : t.length ≤ 13) (hk : 50 ≤ k) (hl0 : l0.length ≤ 1048576) (hl1 : l1.length ≤ 1048576) (hok : okF t = false) :
    Calls Tryd.prog 5 #[.slice A0 l0.length c0, .slice A1 l1.length c1] w fun e w' => e = .returned (.bool true) ∧ Below w.heap.size w w' := by
  have hdraw := spec_DrawLayoutOf.calls k A0 c0 l0 t w hr0 hc0 hd
  have hs0 := Aside0.mk hSB
  have himpl := implOf_no hok
  have hspec := (specOf_f t (by omega) k (by omega)).trans himpl
  have hqn := qn_f 0 0 [] 0 (by simp) k (by simp; omega)
  have hu30 := Tryd.underlying30
  have b0 : decide ((1048576 : Int) < (l0.length : Int)) = false := decide_eq_false (by omega)
  have b1 : decide ((1048576 : Int) < (l1.length : Int)) = false := decide_eq_false (by omega)
  have HT := Aside0.mk ht
  have H0 := Aside0.mk hl0
  have H1 := Aside0.mk hl1
  have HI := Aside0.mk himpl
  have HS := Aside0.mk hspec
  have HQ := Aside0.mk hqn
  clear hSB hr0 hc0 hc1 hd ht hk hl0 hl1 himpl hspec hqn
  have HOK := Aside0.mk hok
  clear hok
  go_enter Tryd.func5, Tryd.ntmps5
  go_upto_region 5 with (first
    | (go_at_call 20; refine hdraw.mono ?_; rintro e w1 ⟨v, rfl, hR1, hB1⟩; obtain ⟨A2, c2, rfl⟩ := Kd.R_slice hR1; have hC1 := (Kd.R_reads' hR1).2; have HB1 := Aside0.mk hB1; have HC1 := Aside0.mk hC1; clear hR1 hB1 hC1)
    | (go_at_call 14; refine (impl_LayoutOf.calls A2 c2 t _ _ _ _ _ w1 (hs0.out.mv HB1.out) HC1.out.2 HC1.out.1 HI.out).mono ?_; rintro e w2 ⟨v, rfl, hR2, hB2⟩; obtain ⟨A3, c3, rfl⟩ := Kd.R_slice hR2; have HR2 := Aside0.mk (Kd.R_reads' hR2).2; have HB2 := Aside0.mk hB2; clear hR2 hB2)
    | go_in)
  obtain ⟨W3, hW3⟩ : ∃ W3, W3 = w2.alloc (.cells #[.int .i64 0, .int .i64 0, .slice A3 0 c3, .int .i64 0] 30) := ⟨_, rfl⟩
  have HW3 := Aside0.mk hW3
  have HB3 := Aside0.mk (show Below w.heap.size w W3 from by rw [hW3]; exact below_alloc (HB1.out.trans (HB2.out.mono HB1.out.size)) _)
  have HB31 := Aside0.mk (show Below w1.heap.size w1 W3 from by rw [hW3]; exact below_alloc HB2.out _)
  have HR3 := Aside0.mk (show 0 ≤ c3 ∧ Kd.C k34 W3 A3 ([] : Slots).length [] from by rw [hW3]; exact ⟨HR2.out.1, Kd.C_below HR2.out.2 (below_alloc (Below.refl _ _) _)⟩)
  have HBL := Aside0.mk (show W3.heap[w2.heap.size]? = some (.cells #[.int .i64 0, .int .i64 0, .slice A3 0 c3, .int .i64 0] 30 (0, 0)) from by rw [hW3]; simpa using heap_alloc_new w2 _)
  rw [← hW3]
  clear hW3
  have hcall := spec_LayoutOf.calls k A2 c2 t _ _ _ _ _ W3 (Kd.C_below HC1.out.2 HB31.out) HC1.out.1 HS.out
  go_upto_region 6 with (first
    | (go_at_call 21; refine hcall.mono ?_; rintro e w4 ⟨v, rfl, hR4, hB4⟩; obtain ⟨A4, c4, rfl⟩ := Kd.R_slice hR4; have HR4 := Aside0.mk (Kd.R_reads' hR4).2; have HB4 := Aside0.mk hB4; clear hR4 hB4 hcall)
    | go_in)
  obtain ⟨W5, hW5⟩ : ∃ W5, W5 = w4.alloc (.cells #[.int .i64 0, .int .i64 0, .slice A4 0 c4, .int .i64 0] 30) := ⟨_, rfl⟩
  have HB35 := Aside0.mk (show Below W3.heap.size W3 W5 from by rw [hW5]; exact below_alloc HB4.out _)
  have HR5 := Aside0.mk (show 0 ≤ c4 ∧ Kd.C k34 W5 A4 ([] : Slots).length [] from by rw [hW5]; exact ⟨HR4.out.1, Kd.C_below HR4.out.2 (below_alloc (Below.refl _ _) _)⟩)
  have bl5 : W5.heap[w4.heap.size]? = some (.cells #[.int .i64 0, .int .i64 0, .slice A4 0 c4, .int .i64 0] 30 (0, 0)) := by rw [hW5]; simpa using heap_alloc_new w4 _
  rw [← hW5]
  clear hW5
  have bl3 : W5.heap[w2.heap.size]? = some (.cells #[.int .i64 0, .int .i64 0, .slice A3 0 c3, .int .i64 0] 30 (0, 0)) := (HB35.out.block _ (by have := (Array.getElem?_eq_some_iff.mp HBL.out).1; exact this)).trans HBL.out
  have p0 : W5.cell? ⟨w2.heap.size, 0, none⟩ = some (.int .i64 0) := (blk_cell bl3 0).trans rfl
  have p1 : W5.cell? ⟨w2.heap.size, 1, none⟩ = some (.int .i64 0) := (blk_cell bl3 1).trans rfl
  have p2 : W5.cell? ⟨w2.heap.size, 2, none⟩ = some (.slice A3 0 c3) := (blk_cell bl3 2).trans rfl
  have p3 : W5.cell? ⟨w2.heap.size, 3, none⟩ = some (.int .i64 0) := (blk_cell bl3 3).trans rfl
  have q0 : W5.cell? ⟨w4.heap.size, 0, none⟩ = some (.int .i64 0) := (blk_cell bl5 0).trans rfl
  have q1 : W5.cell? ⟨w4.heap.size, 1, none⟩ = some (.int .i64 0) := (blk_cell bl5 1).trans rfl
  have q2 : W5.cell? ⟨w4.heap.size, 2, none⟩ = some (.slice A4 0 c4) := (blk_cell bl5 2).trans rfl
  have q3 : W5.cell? ⟨w4.heap.size, 3, none⟩ = some (.int .i64 0) := (blk_cell bl5 3).trans rfl
  have hcall := fun (W : World) (hb : Below W5.heap.size W5 W) => laws_qnLayout.calls k 0 0 A3 c3 [] 0 0 0 A4 c4 [] 0 true W (Kd.C_below (Kd.C_below HR3.out.2 HB35.out) hb) HR3.out.1 (Kd.C_below HR5.out.2 hb) HR5.out.1 HQ.out
  have HBL5 := Aside0.mk bl3
  have HBM5 := Aside0.mk bl5
  clear bl3 bl5
  have BW5 := Aside0.mk (HB3.out.trans (HB35.out.mono HB3.out.size))
  go_upto_region 7 with (first
    | (go_at_call 22; refine (hcall _ (Below.refl _ _)).mono ?_; rintro e w6 ⟨rfl, hB6⟩; have HB6 := Aside0.mk hB6; clear hB6 p0 p1 p2 p3 q0 q1 q2 q3)
    | go_in)
  have bl3 := (HB6.out.block _ (Array.getElem?_eq_some_iff.mp HBL5.out).1).trans HBL5.out
  have bl5 := (HB6.out.block _ (Array.getElem?_eq_some_iff.mp HBM5.out).1).trans HBM5.out
  have p0 : w6.cell? ⟨w2.heap.size, 0, none⟩ = some (.int .i64 0) := (blk_cell bl3 0).trans rfl
  have p1 : w6.cell? ⟨w2.heap.size, 1, none⟩ = some (.int .i64 0) := (blk_cell bl3 1).trans rfl
  have p2 : w6.cell? ⟨w2.heap.size, 2, none⟩ = some (.slice A3 0 c3) := (blk_cell bl3 2).trans rfl
  have p3 : w6.cell? ⟨w2.heap.size, 3, none⟩ = some (.int .i64 0) := (blk_cell bl3 3).trans rfl
  have q0 : w6.cell? ⟨w4.heap.size, 0, none⟩ = some (.int .i64 0) := (blk_cell bl5 0).trans rfl
  have q1 : w6.cell? ⟨w4.heap.size, 1, none⟩ = some (.int .i64 0) := (blk_cell bl5 1).trans rfl
  have q2 : w6.cell? ⟨w4.heap.size, 2, none⟩ = some (.slice A4 0 c4) := (blk_cell bl5 2).trans rfl
  have q3 : w6.cell? ⟨w4.heap.size, 3, none⟩ = some (.int .i64 0) := (blk_cell bl5 3).trans rfl
  clear bl3 bl5
  have B56 := Aside0.mk HB6.out
  go_wp2_with (first
    | (go_at_call 22; refine (hcall _ B56.out).mono ?_; rintro e w7 ⟨rfl, hB7⟩)
    | go_in)
  go_ret
  exact ⟨rfl, BW5.out.trans ((HB6.out.trans (hB7.mono HB6.out.size)).mono BW5.out.size)⟩
set_option maxHeartbeats 4000000 in
theorem grows_long (A0 A1 : Option Addr) (c0 c1 : Nat) (l0 l1 : List Int) (w : World) (h : 1048576 < l0.length ∨ 1048576 < l1.length) :
    Calls Tryd.prog 5 #[.slice A0 l0.length c0, .slice A1 l1.length c1] w fun e w' => e = .returned (.bool true) ∧ Below w.heap.size w w' := by
  by_cases h0 : (1048576 : Int) < (l0.length : Int)
  · have b0 := decide_eq_true h0
    clear h h0
    go_enter Tryd.func5, Tryd.ntmps5
    go_wp2
    go_ret
    exact ⟨rfl, Below.refl _ _⟩
  · have b0 := decide_eq_false h0
    have b1 : decide ((1048576 : Int) < (l1.length : Int)) = true := decide_eq_true (by omega)
    clear h h0
    go_enter Tryd.func5, Tryd.ntmps5
    go_wp2
    go_ret
    exact ⟨rfl, Below.refl _ _⟩
namespace P
theorem laws_FnLayoutGrows.walk (a0 : Option Addr) (len0 cap0 : Nat) (z0 : List Int) (a1 : Option Addr) (len1 cap1 : Nat) (z1 : List Int) (w : World) (hSB : SBw w) (w0 : (a0 = none ∧ len0 = 0 ∧ cap0 = 0 ∧ z0 = []) ∨ ∃ x, a0 = some x ∧ len0 ≤ cap0 ∧ cap0 ≤ maxLen ∧ z0.length = cap0 ∧ (∀ i, i < z0.length → w.cell? (x.add i) = some (.int .u8 (z0.getD i 0))) ∧ ∀ n ∈ z0, (Lit.int .u8 n).wf = true) (w1 : (a1 = none ∧ len1 = 0 ∧ cap1 = 0 ∧ z1 = []) ∨ ∃ x, a1 = some x ∧ len1 ≤ cap1 ∧ cap1 ≤ maxLen ∧ z1.length = cap1 ∧ (∀ i, i < z1.length → w.cell? (x.add i) = some (.int .u8 (z1.getD i 0))) ∧ ∀ n ∈ z1, (Lit.int .u8 n).wf = true) :
    Calls Tryd.prog 5 #[.slice a0 len0 cap0, .slice a1 len1 cap1] w fun e w' => e = .returned (.bool true) ∧ Below w.heap.size w w' := by
  obtain ⟨l0, rfl, hr0, hm0, hw0, hc0⟩ := ReadsInt.ofRowC w0
  obtain ⟨l1, rfl, hr1, hm1, hw1, hc1⟩ := ReadsInt.ofRowC w1
  by_cases h : 1048576 < l0.length ∨ 1048576 < l1.length
  · exact grows_long a0 a1 cap0 cap1 l0 l1 w h
  · obtain ⟨k, hk⟩ : ∃ k : Nat, 50 ≤ k := ⟨50, Nat.le_refl _⟩
    obtain ⟨t, hd, ht⟩ := drawOf_f l0 hw0 k (by omega)
    have hC := Kd.C_of_reads (d := (0 : Int)) (h1 := fun _ => rfl) hr0
    by_cases hok : okF t = true
    · exact grows_calls k a0 a1 cap0 cap1 l0 l1 t w hSB hC hc0 hc1 hd ht hk (by omega) (by omega) hok
    · exact grows_no k a0 a1 cap0 cap1 l0 l1 t w hSB hC hc0 hc1 hd ht hk (by omega) (by omega) (by simpa using hok)
end P
end Go.Proofs.YtjjcepnadjociaaDoor
