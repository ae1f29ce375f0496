/- The reference's layout, walked. -/
import Derived.Test.YtjjcepnadjociaaDoorStubField
import Derived.Test.YtjjcepnadjociaaDoorStubLayout
namespace Go.Proofs.YtjjcepnadjociaaDoor
set_option linter.unusedVariables false
set_option linter.unusedSimpArgs false
open Go.RowKit Go.Proofs.YtjjcepnadjociaaDoor.Lem Go.Proofs.YtjjcepnadjociaaDoor.P Go.Proofs.YtjjcepnadjociaaDoorW.PrintWords Go.Proofs.YtjjcepnadjociaaDoorW.PrintLast Go.Proofs.YtjjcepnadjociaaDoorW.PrintMore
theorem row_grown34 {w w1 : World} {row : Option Nat} (hg : w.grownBy w1 row) (hr : ∀ k, row = some k → ∃ cs, w.heap[k]? = some (Obj.cells cs 34 (0, 0))) {k : Nat} {cs : Array Value} {t : TypeId} {fr : Nat × Nat} (e : w.heap[k]? = some (Obj.cells cs t fr)) (ht : t ≠ 34) : w1.heap[k]? = some (Obj.cells cs t fr) := by
  refine (hg.block k (Array.getElem?_eq_some_iff.mp e).1 (fun hk => ?_)).trans e
  obtain ⟨cs1, e1⟩ := hr k hk.symm
  rw [e1] at e
  injection e with e
  injection e with _ e2 _
  exact ht e2.symm
theorem IsL.grown34 {w0 w w1 : World} {lb : Nat} {p : PS} (H : IsL w0 w lb p) {row : Option Nat} (hg : w.grownBy w1 row) (hr : ∀ k, row = some k → ∃ cs, w.heap[k]? = some (Obj.cells cs 34 (0, 0))) (hb : Below w0.heap.size w0 w1) : IsL w0 w1 lb p := by
  obtain ⟨pv, sv, hv⟩ := H.out
  have hm : ∀ (v : Value), (∀ k, v.ownBlock = some k → ∃ cs, w.heap[k]? = some (Obj.cells cs 3 (0, 0))) → ∀ k, v.ownBlock = some k → w1.heap[k]? = w.heap[k]? := fun v hv k hk => by
    obtain ⟨cs, e⟩ := hv k hk
    rw [row_grown34 hg hr e (by decide), e]
  exact ⟨pv, sv, ⟨row_grown34 hg hr hv.lay.row (by decide), hv.lay.old, hb⟩, RI_move hv.places (hm pv (fun k hk => RI_typed hv.places k hk)), RI_move hv.scales (hm sv (fun k hk => RI_typed hv.scales k hk))⟩
/-- A store into a row of another type. -/
theorem IsL.set_other {w0 w : World} {lb : Nat} {p : PS} (H : IsL w0 w lb p) {g t : Nat} {cs : Array Value} (hb : w.heap[g]? = some (.cells cs t (0, 0))) (h1 : t ≠ 80) (h2 : t ≠ 3) (h0 : w0.heap.size ≤ g) (j : Nat) (u : Value) : IsL w0 (w.setCell ⟨g, j, none⟩ u) lb p := by
  obtain ⟨pv, sv, hv⟩ := H.out
  have hm : ∀ (v : Value), (∀ k, v.ownBlock = some k → ∃ cs, w.heap[k]? = some (Obj.cells cs 3 (0, 0))) → ∀ k, v.ownBlock = some k → (w.setCell ⟨g, j, none⟩ u).heap[k]? = w.heap[k]? := fun v hv k hk => by
    obtain ⟨cs1, e⟩ := hv k hk
    refine Below.heap_setCell w _ _ k (fun e1 => ?_)
    have e2 : k = g := e1
    subst e2
    rw [e] at hb
    injection hb with hb
    injection hb with _ e3 _
    exact h2 e3.symm
  have hl : lb ≠ g := fun e => by
    subst e
    rw [hv.lay.row] at hb
    injection hb with hb
    injection hb with _ e3 _
    exact h1 e3.symm
  exact ⟨pv, sv, ⟨(Below.heap_setCell w _ _ lb hl).trans hv.lay.row, hv.lay.old, below_set hv.lay.below h0⟩, RI_move hv.places (hm pv (fun k hk => RI_typed hv.places k hk)), RI_move hv.scales (hm sv (fun k hk => RI_typed hv.scales k hk))⟩
def spec_l7Layout.f (l0 : List S27) : Option (Int × Int × List S34 × Int) := impl_layout.f l0
set_option maxHeartbeats 4000000 in
set_option maxRecDepth 100000 in
theorem spec_l7Layout.calls (A0 : Option Addr) (c0 : Nat) (l0 : List S27) (r1 r2 : Int) (r3 : List S34) (r4 : Int) (w : World) (hr0 : Kd.C k27 w A0 l0.length l0) (hc0 : l0.length ≤ c0) (h : spec_l7Layout.f l0 = some (r1, r2, r3, r4)) :
    Calls Tryd.prog 38 #[.slice A0 l0.length c0] w fun e w' => ∃ v2, e = .returned (.agg #[.int .i64 r1, .int .i64 r2, v2, .int .i64 r4]) ∧ Kd.R k34 34 w' w.heap.size (fun _ => True) v2 r3 ∧ Below w.heap.size w w' := by
  unfold spec_l7Layout.f impl_layout.f at h
  by_cases hG : FieldsGood l0
  · rw [if_pos hG] at h
    have hr := Option.some.inj h
    injection hr with e1 e
    injection e with e2 e
    injection e with e3 e4
    subst e1 e2 e3 e4
    obtain ⟨W2, hW2⟩ : ∃ W2, W2 = ((w.alloc (.cells #[.int .i64 0, .int .i64 0, .slice none 0 0, .int .i64 0] 30)).alloc (.cells #[.int .i64 0, .int .i64 0, .int .i64 0, .int .i64 0, .int .i64 0, .int .i64 0, .int .i64 0, .int .i64 0, .int .i64 (-1), .int .i64 0, .slice none 0 0, .slice none 0 0, .int .i64 (-1)] 80)).alloc (.cells #[.int .i64 0, .int .i64 0, .slice none 0 0, .int .i64 0] 30) := ⟨_, rfl⟩
    have HR0 := Aside0.mk hr0
    have HG := Aside0.mk hG
    have HW2 := Aside0.mk hW2
    have hinfo : (Tryd.prog.info? 34).map (fun i => (i.zero, i.size, i.bytes)) = some (some (.agg #[(.int .i64 0)]), 1, 8) := by kernel_rfl
    have hu := Tryd.underlying27
    have hu2 := Tryd.underlying80
    have hu3 := Tryd.underlying30
    clear h hG hr0 hc0 hW2
    go_enter Tryd.func38, Tryd.ntmps38
    have b0 : W2.heap[w.heap.size]? = some (.cells #[.int .i64 0, .int .i64 0, .slice none 0 0, .int .i64 0] 30 (0, 0)) := by
      rw [HW2.out, Below.heap_alloc _ _ _ (by simp; omega), Below.heap_alloc _ _ _ (by simp)]
      simpa using heap_alloc_new w _
    have b1 : W2.heap[w.heap.size + 1]? = some (.cells #[.int .i64 0, .int .i64 0, .int .i64 0, .int .i64 0, .int .i64 0, .int .i64 0, .int .i64 0, .int .i64 0, .int .i64 (-1), .int .i64 0, .slice none 0 0, .slice none 0 0, .int .i64 (-1)] 80 (0, 0)) := by
      rw [HW2.out, Below.heap_alloc _ _ _ (by simp)]
      have := heap_alloc_new (w.alloc (.cells #[.int .i64 0, .int .i64 0, .slice none 0 0, .int .i64 0] 30)) (.cells #[.int .i64 0, .int .i64 0, .int .i64 0, .int .i64 0, .int .i64 0, .int .i64 0, .int .i64 0, .int .i64 0, .int .i64 (-1), .int .i64 0, .slice none 0 0, .slice none 0 0, .int .i64 (-1)] 80)
      rw [show (w.alloc (.cells #[.int .i64 0, .int .i64 0, .slice none 0 0, .int .i64 0] 30)).heap.size = w.heap.size + 1 by simp] at this
      exact this
    have b2 : W2.heap[w.heap.size + 1 + 1]? = some (.cells #[.int .i64 0, .int .i64 0, .slice none 0 0, .int .i64 0] 30 (0, 0)) := by
      rw [HW2.out]
      have := heap_alloc_new ((w.alloc (.cells #[.int .i64 0, .int .i64 0, .slice none 0 0, .int .i64 0] 30)).alloc (.cells #[.int .i64 0, .int .i64 0, .int .i64 0, .int .i64 0, .int .i64 0, .int .i64 0, .int .i64 0, .int .i64 0, .int .i64 (-1), .int .i64 0, .slice none 0 0, .slice none 0 0, .int .i64 (-1)] 80)) (.cells #[.int .i64 0, .int .i64 0, .slice none 0 0, .int .i64 0] 30)
      rw [show ((w.alloc (.cells #[.int .i64 0, .int .i64 0, .slice none 0 0, .int .i64 0] 30)).alloc (.cells #[.int .i64 0, .int .i64 0, .int .i64 0, .int .i64 0, .int .i64 0, .int .i64 0, .int .i64 0, .int .i64 0, .int .i64 (-1), .int .i64 0, .slice none 0 0, .slice none 0 0, .int .i64 (-1)] 80)).heap.size = w.heap.size + 1 + 1 by simp] at this
      exact this
    have hB2 : Below w.heap.size w W2 := by rw [HW2.out]; exact below_alloc (below_alloc (below_alloc (Below.refl _ _) _) _) _
    have I0 : IsL w W2 (w.heap.size + 1) PS.new := ⟨.slice none 0 0, .slice none 0 0, ⟨b1, by omega, hB2⟩, Kd.R_nil _ _ _ _ _, Kd.R_nil _ _ _ _ _⟩
    have HI0 := Aside0.mk I0
    have HB0 := Aside0.mk b0
    have HB2 := Aside0.mk b2
    clear b0 b1 b2 hB2 I0
    go_wp2
    rw [← HW2.out]
    go_loopg [5] l0.length (fun gg s5 wr => ∃ (kk : Nat) (Av : Option Addr) (cv : Nat), s5 = .int .i64 kk ∧ Aside0 (kk ≤ l0.length ∧ l0.length - kk ≤ gg) ∧ Aside0 (IsL w wr (w.heap.size + 1) (layS (l0.take kk)).2) ∧ Aside0 (Kd.R k34 34 wr w.heap.size (fun _ => True) (.slice Av kk cv) ((layS (l0.take kk)).1.map S34.mk)) ∧ Aside0 (wr.heap[w.heap.size + 1 + 1]? = some (.cells #[.int .i64 0, .int .i64 0, .slice Av kk cv, .int .i64 0] 30 (0, 0))) ∧ Aside0 (wr.heap[w.heap.size]? = some (.cells #[.int .i64 0, .int .i64 0, .slice none 0 0, .int .i64 0] 30 (0, 0))))
    case atStart => exact ⟨0, none, 0, rfl, ⟨Nat.zero_le _, by omega⟩, HI0, ⟨Kd.R_nil _ _ _ _ _⟩, HB2, HB0⟩
    case round =>
      clear HI0 HB0 HB2 HW2
      obtain ⟨kk, Av, cv, rfl, HK, HI, HO, HBo, HBr⟩ := hrel
      have hlen := HG.out.1
      by_cases hlt : kk < l0.length
      · have hltz : (kk : Int) < (l0.length : Int) := by omega
        obtain ⟨ad, e0, y0, y1, y2⟩ := at_T27 HR0.out (kk : Int) (by omega) hltz
        cases e0
        rw [Int.toNat_natCast] at y0 y1 y2
        have hrd : rd_T27 l0 (kk : Int) = l0[kk] := by
          unfold rd_T27
          rw [Int.toNat_natCast, List.getD_eq_getElem?_getD, List.getElem?_eq_getElem hlt, Option.getD_some]
        have htk : l0.take (kk + 1) = l0.take kk ++ [rd_T27 l0 (kk : Int)] := by rw [hrd, List.take_succ_eq_append_getElem hlt]
        have hs := HG.out.2 (rd_T27 l0 (kk : Int)) (by rw [hrd]; exact List.getElem_mem hlt)
        have HT := Aside0.mk (show layS (l0.take (kk + 1)) = _ by rw [htk, layS_snoc])
        have hi : Inv (2 * kk) kk (layS (l0.take kk)).2 := by
          have := layS_inv (l0.take kk)
          rw [List.length_take, Nat.min_eq_left (by omega)] at this
          exact this
        have HLL := Aside0.mk (show (layS (l0.take kk)).1.length = kk by unfold layS; rw [layP_length, List.length_map, List.length_take, Nat.min_eq_left (by omega)])
        clear htk hrd
        generalize rd_T27 l0 (kk : Int) = s at *
        generalize layS (l0.take kk) = LS at *
        obtain ⟨xs, q⟩ := LS
        have hI2 := HI.out.below_ (show Below wr.heap.size wr wr.drew from below_drew (Below.refl _ _))
        have hc := field_calls w wr.drew (w.heap.size + 1) (2 * kk) kk q s.f0 s.f1 s.f2 hs hi (by omega) hI2
        have HO2 := Aside0.mk (Kd.R_below HO.out (show Below wr.heap.size wr wr.drew from below_drew (Below.refl _ _)))
        have HBo2 := Aside0.mk (show wr.drew.heap[w.heap.size + 1 + 1]? = some (.cells #[.int .i64 0, .int .i64 0, .slice Av kk cv, .int .i64 0] 30 (0, 0)) from HBo.out)
        have HBr2 := Aside0.mk (show wr.drew.heap[w.heap.size]? = some (.cells #[.int .i64 0, .int .i64 0, .slice none 0 0, .int .i64 0] 30 (0, 0)) from HBr.out)
        have d0 : wr.drew.cell? ⟨w.heap.size + 1 + 1, 2, none⟩ = some (.slice Av kk cv) := (blk_cell HBo2.out 2).trans rfl
        have hw0 := hI2.low
        have d1 := (hw0.cell (World.block_lt_of_cell? w _ y0)).trans y0
        have d2 := (hw0.cell (World.block_lt_of_cell? w _ y1)).trans y1
        have d3 := (hw0.cell (World.block_lt_of_cell? w _ y2)).trans y2
        have Y0 := Aside0.mk y0
        have Y1 := Aside0.mk y1
        have Y2 := Aside0.mk y2
        have HKK := Aside0.mk HK.out
        obtain ⟨L1, hL1⟩ : ∃ L1, L1 = kk + 1 := ⟨_, rfl⟩
        have HL1 := Aside0.mk hL1
        have HE0 := Aside0.mk (show wr.cell? ⟨w.heap.size + 1 + 1, 2, none⟩ = some (.slice Av kk cv) from d0)
        clear hs hi hI2 HO HI HBo HBr hw0 y0 y1 y2 hL1 hlt
        generalize putP q s.f0 s.f1 = R at *
        obtain ⟨r, q2⟩ := R
        go_wp2
        refine start_ (n := 13) (S := fun w' => w'.cell? ⟨w.heap.size + 1 + 1, 2, none⟩ = some (.slice Av kk cv) ∧ w'.cell? (ad.add (kk * 3)) = some (.int .i64 s.f0) ∧ w'.cell? ⟨(ad.add (kk * 3)).block, (ad.add (kk * 3)).off + 1, none⟩ = some (.bool s.f1) ∧ w'.cell? ⟨(ad.add (kk * 3)).block, (ad.add (kk * 3)).off + 2, none⟩ = some (.int .i64 s.f2)) (ds := [12]) #[false, false, false, false, false, false, false, false, false, false, false, false, false] (by kernel_rfl) rfl rfl ⟨d0, d1, d2, d3⟩ (fun hHeld => ?_)
        refine pure_ (i := 0) (N := some 15) (v := ?_) (a' := ?_) #[true, false, false, false, false, false, false, false, false, false, false, false, false] rfl rfl (by kernel_rfl) (fun _ _ _ h => h) (Or.inl ⟨by rfl, ?_⟩) ?_ ?_
        rotate_left
        · intro w'
          go_simp
          with_reducible rfl
        rotate_left
        · simp only [Act.put, List.setIfInBounds_toArray, List.set_cons_zero, List.set_cons_succ, i64_w, i32_w]
          rfl
        refine pure_ (i := 2) (N := some 17) (v := ?_) (a' := ?_) #[true, false, true, false, false, false, false, false, false, false, false, false, false] rfl rfl (by kernel_rfl) (fun _ _ _ h => h) (Or.inl ⟨by rfl, ?_⟩) ?_ ?_
        rotate_left
        · intro w'
          go_simp
          with_reducible rfl
        rotate_left
        · simp only [Act.put, List.setIfInBounds_toArray, List.set_cons_zero, List.set_cons_succ, i64_w, i32_w]
          rfl
        refine pure_ (i := 3) (N := some 18) (v := ?_) (a' := ?_) #[true, false, true, true, false, false, false, false, false, false, false, false, false] rfl rfl (by kernel_rfl) (fun _ _ _ h => h) (Or.inl ⟨by rfl, ?_⟩) ?_ ?_
        rotate_left
        · intro w'
          go_simp
          with_reducible rfl
        rotate_left
        · simp only [Act.put, List.setIfInBounds_toArray, List.set_cons_zero, List.set_cons_succ, i64_w, i32_w]
          rfl
        refine pure_ (i := 4) (N := some 19) (v := ?_) (a' := ?_) #[true, false, true, true, true, false, false, false, false, false, false, false, false] rfl rfl (by kernel_rfl) (fun _ _ _ h => h) (Or.inl ⟨by rfl, ?_⟩) ?_ ?_
        rotate_left
        · intro w'
          go_simp
          with_reducible rfl
        rotate_left
        · simp only [Act.put, List.setIfInBounds_toArray, List.set_cons_zero, List.set_cons_succ, i64_w, i32_w]
          rfl
        refine pure_ (i := 5) (N := some 20) (v := ?_) (a' := ?_) #[true, false, true, true, true, true, false, false, false, false, false, false, false] rfl rfl (by kernel_rfl) (fun _ _ _ h => h) (Or.inl ⟨by rfl, ?_⟩) ?_ ?_
        rotate_left
        · intro w'
          go_simp
          with_reducible rfl
        rotate_left
        · simp only [Act.put, List.setIfInBounds_toArray, List.set_cons_zero, List.set_cons_succ, i64_w, i32_w]
          rfl
        refine take_ (i := 1) (N := some 16) (v := ?_) (a' := ?_) #[true, true, true, true, true, true, false, false, false, false, false, false, false] rfl rfl (by kernel_rfl) (fun _ _ _ h => h) (Or.inl ⟨by rfl, ?_⟩) hHeld ?_ ?_
        rotate_left
        · rintro w' ⟨s0, s1, s2, s3⟩
          go_simp
          with_reducible rfl
        rotate_left
        · simp only [Act.put, List.setIfInBounds_toArray, List.set_cons_zero, List.set_cons_succ, i64_w, i32_w]
          rfl
        refine take_ (i := 6) (N := some 21) (v := ?_) (a' := ?_) #[true, true, true, true, true, true, true, false, false, false, false, false, false] rfl rfl (by kernel_rfl) (fun _ _ _ h => h) (Or.inl ⟨by rfl, ?_⟩) hHeld ?_ ?_
        rotate_left
        · rintro w' ⟨s0, s1, s2, s3⟩
          go_simp
          with_reducible rfl
        rotate_left
        · simp only [Act.put, List.setIfInBounds_toArray, List.set_cons_zero, List.set_cons_succ, i64_w, i32_w]
          rfl
        refine one_ (i := 7) (N := some 22) #[true, true, true, true, true, true, true, true, false, false, false, false, false] rfl rfl (by kernel_rfl) (by decide) (fun K hK => ?_)
        refine goes_ Tryd.func50 (by kernel_rfl) rfl #[.pointer (some ⟨w.heap.size + 1, 0, none⟩), .agg #[.int .i64 s.f0, .bool s.f1, .int .i64 s.f2]] (by rfl) rfl rfl (by simp only [List.map_toArray, List.map_cons, List.map_nil]; rfl) ?_
        with_reducible refine (hc).mono ?_
        rintro e w3 ⟨rfl, hI1, hK1⟩
        refine ⟨_, rfl, ?_⟩
        have o1 := hK1.same _ _ _ _ HBo2.out (by decide) (by decide)
        have r1 := hK1.same _ _ _ _ HBr2.out (by decide) (by decide)
        have e0 : w3.cell? ⟨w.heap.size + 1 + 1, 2, none⟩ = some (.slice Av kk cv) := (blk_cell o1 2).trans rfl
        have B5 := Aside0.mk hI1
        have HO3 := Aside0.mk (R34_typed HO2.out (fun k cs hk e => (hK1.same k cs _ _ e (by decide) (by decide)).trans e.symm))
        have B6 := Aside0.mk o1
        have B7 := Aside0.mk r1
        clear hI1 hK1 o1 r1 hc
        refine hK.out _ _ ⟨e0, (B5.out.low.cell (World.block_lt_of_cell? w _ Y0.out)).trans Y0.out, (B5.out.low.cell (World.block_lt_of_cell? w _ Y1.out)).trans Y1.out, (B5.out.low.cell (World.block_lt_of_cell? w _ Y2.out)).trans Y2.out⟩ (fun hHeld => ?_)
        clear hK K
        refine norm_ (a' := ?_) ?_ ?_
        rotate_left
        · show Act.put _ (some 22) _ = _
          simp only [Act.put, List.setIfInBounds_toArray, List.set_cons_zero, List.set_cons_succ, i64_w, i32_w]
          rfl
        refine pure_ (i := 8) (N := some 23) (v := ?_) (a' := ?_) #[true, true, true, true, true, true, true, true, true, false, false, false, false] rfl rfl (by kernel_rfl) (fun _ _ _ h => h) (Or.inl ⟨by rfl, ?_⟩) ?_ ?_
        rotate_left
        · intro w'
          go_simp
          with_reducible rfl
        rotate_left
        · simp only [Act.put, List.setIfInBounds_toArray, List.set_cons_zero, List.set_cons_succ, i64_w, i32_w]
          rfl
        refine one_ (i := 9) (N := some 24) #[true, true, true, true, true, true, true, true, true, true, false, false, false] rfl rfl (by kernel_rfl) (by decide) (fun K hK => ?_)
        refine value_ (w1 := ?_) (v := ?_) (by rfl) rfl ?_ ?_
        rotate_left 2
        · go_simp
          constructor
          · rfl
          · rfl
        have hb4 : Below w3.heap.size w3 (w3.alloc (.cells #[.int .i64 r] 34)) := below_alloc (Below.refl _ _) _
        have hI4 := B5.out.below_ hb4
        refine hK.out _ _ ⟨(hb4.cell (World.block_lt_of_cell? w3 _ e0)).trans e0, (hI4.low.cell (World.block_lt_of_cell? w _ Y0.out)).trans Y0.out, (hI4.low.cell (World.block_lt_of_cell? w _ Y1.out)).trans Y1.out, (hI4.low.cell (World.block_lt_of_cell? w _ Y2.out)).trans Y2.out⟩ (fun hHeld => ?_)
        clear hK K
        refine norm_ (a' := ?_) ?_ ?_
        rotate_left
        · show Act.put _ (some 24) _ = _
          simp only [Act.put, List.setIfInBounds_toArray, List.set_cons_zero, List.set_cons_succ, i64_w, i32_w]
          rfl
        refine one_ (i := 10) (N := some 25) #[true, true, true, true, true, true, true, true, true, true, true, false, false] rfl rfl (by kernel_rfl) (by decide) (fun K hK => ?_)
        refine Kd.R_append_step k34 (w0 := w) w.heap.size (by rfl) (.tmp 16) (.tmp 24) 28 34 (.agg #[(.int .i64 0)]) 8 rfl Tryd.underlying28 hinfo rfl (by decide) (by omega) (.slice Av kk cv) (xs.map S34.mk) (S34.mk r) [.int .i64 r] (fun _ => True) (fun _ => False) rfl rfl (k34_mkM _ _ _ (S34.mk r)) (fun _ hk => hk.elim) (fun _ _ => trivial) HO3.out B5.out.low B5.out.low.size ?aL ?_
        case aL => (rw [List.length_map, HLL.out]; have := HKK.out; omega)
        intro v4 w4 ho4 hb5 hg4 hat4
        obtain ⟨A4', c4', er⟩ := Kd.R_slice ho4
        have er2 : v4 = .slice A4' L1 c4' := er.trans (by rw [List.length_append, List.length_map, HLL.out, HL1.out]; rfl)
        subst er2
        clear er
        have ht : ∀ k, (Value.slice Av kk cv).ownBlock = some k → ∃ cs, w3.heap[k]? = some (Obj.cells cs 34 (0, 0)) := fun k hk => by obtain ⟨h0, inner, hown, hr⟩ := HO3.out; exact own_typed hown k hk
        have B1 := Aside0.mk (B5.out.grown34 hg4 ht hb5)
        have B2 := Aside0.mk ho4
        have B3 := Aside0.mk (row_grown34 hg4 ht B6.out (by decide))
        have B4 := Aside0.mk (row_grown34 hg4 ht B7.out (by decide))
        have hc5 : w4.cell? ⟨w.heap.size + 1 + 1, 2, none⟩ = some (.slice Av kk cv) := (blk_cell B3.out 2).trans rfl
        have hf5 : w4.frozen? ⟨w.heap.size + 1 + 1, 2, none⟩ = false := blk_frozen B3.out 2
        clear ho4 hb5 hg4 hat4 ht
        refine hK.out _ _ ⟨hc5, (B1.out.low.cell (World.block_lt_of_cell? w _ Y0.out)).trans Y0.out, (B1.out.low.cell (World.block_lt_of_cell? w _ Y1.out)).trans Y1.out, (B1.out.low.cell (World.block_lt_of_cell? w _ Y2.out)).trans Y2.out⟩ (fun hHeld => ?_)
        clear hK K
        refine norm_ (a' := ?_) ?_ ?_
        rotate_left
        · show Act.put _ (some 25) _ = _
          simp only [Act.put, List.setIfInBounds_toArray, List.set_cons_zero, List.set_cons_succ, i64_w, i32_w]
          rfl
        refine pure_ (i := 11) (N := some 26) (v := ?_) (a' := ?_) #[true, true, true, true, true, true, true, true, true, true, true, true, false] rfl rfl (by kernel_rfl) (fun _ _ _ h => h) (Or.inl ⟨by rfl, ?_⟩) ?_ ?_
        rotate_left
        · intro w'
          go_simp
          with_reducible rfl
        rotate_left
        · simp only [Act.put, List.setIfInBounds_toArray, List.set_cons_zero, List.set_cons_succ, i64_w, i32_w]
          rfl
        refine last_ (i := 12) (N := none) #[true, true, true, true, true, true, true, true, true, true, true, true, true] rfl rfl (by kernel_rfl) (by decide) (fun K hK => ?_)
        refine skip_ (w1 := ?_) (by rfl) rfl ?_ ?_
        rotate_left
        · go_simp
          rfl
        refine hK.out _ _ ?_
        clear hK K
        refine done_ (by kernel_rfl) ?_
        go_wp2
        go_roundg (l0.length - (kk + 1))
        case measure => have := HKK.out; omega
        case rel =>
          have hkk := HKK.out
          have eL : L1 = kk + 1 := HL1.out
          have hE : ∀ x, x ∈ 34 :: k34.E → x ≠ 30 := fun x hx => by
            rcases List.mem_cons.mp hx with h | h
            · rw [h]; decide
            · simp [k34, Kd.iso, Kd.int, Kd.scalar] at h
          refine ⟨L1, A4', c4', by rw [eL]; first | rfl | (rw [w64 (by omega) (by omega)]; rfl), ⟨by omega, by omega⟩, ⟨?_⟩, ⟨?_⟩, ⟨?_⟩, ⟨?_⟩⟩
          · rw [eL, HT.out]
            exact B1.out.set_other B3.out (by decide) (by decide) (by omega) 2 _
          · rw [eL, HT.out]
            have := Kd.R_set B2.out B3.out hE 2 (.slice A4' L1 c4')
            rw [show xs.map S34.mk ++ [S34.mk r] = (xs ++ [r]).map S34.mk by rw [List.map_append]; rfl] at this
            rw [← eL]
            exact this
          · exact blk_put B3.out 2 (.slice A4' L1 c4') rfl
          · exact blk_far B4.out (p := ⟨w.heap.size + 1 + 1, 2, none⟩) (show w.heap.size ≠ w.heap.size + 1 + 1 by omega) _
      · have hltz : ¬ (kk : Int) < (l0.length : Int) := by omega
        have e : l0.take kk = l0 := List.take_of_length_le (by omega)
        rw [e] at HI HO
        have hLL : kk = l0.length := by have := HK.out; omega
        have hn : (layS l0).1.length = kk := by unfold layS; rw [layP_length, List.length_map, hLL]
        clear e hLL hlt
        generalize hLS : layS l0 = LS at *
        have HLS := Aside0.mk hLS
        clear hLS
        obtain ⟨xs, q⟩ := LS
        obtain ⟨pv, sv, hv⟩ := HI.out.out
        have g0 := (hv.lay.at_ 0 (v := .int .i64 q.words) rfl).1
        have g1 := (hv.lay.at_ 1 (v := .int .i64 q.ptrs) rfl).1
        have g8 := (hv.lay.at_ 8 (v := .int .i64 q.tag) rfl).1
        have o0 : wr.cell? ⟨w.heap.size + 1 + 1, 0, none⟩ = some (.int .i64 0) := (blk_cell HBo.out 0).trans rfl
        have o1 : wr.cell? ⟨w.heap.size + 1 + 1, 1, none⟩ = some (.int .i64 0) := (blk_cell HBo.out 1).trans rfl
        have o2 : wr.cell? ⟨w.heap.size + 1 + 1, 2, none⟩ = some (.slice Av kk cv) := (blk_cell HBo.out 2).trans rfl
        have o3 : wr.cell? ⟨w.heap.size + 1 + 1, 3, none⟩ = some (.int .i64 0) := (blk_cell HBo.out 3).trans rfl
        have p0 : wr.frozen? ⟨w.heap.size + 1 + 1, 0, none⟩ = false := blk_frozen HBo.out 0
        have p1 : wr.frozen? ⟨w.heap.size + 1 + 1, 1, none⟩ = false := blk_frozen HBo.out 1
        have p3 : wr.frozen? ⟨w.heap.size + 1 + 1, 3, none⟩ = false := blk_frozen HBo.out 3
        have t0 : wr.cell? ⟨w.heap.size, 0, none⟩ = some (.int .i64 0) := (blk_cell HBr.out 0).trans rfl
        have t1 : wr.cell? ⟨w.heap.size, 1, none⟩ = some (.int .i64 0) := (blk_cell HBr.out 1).trans rfl
        have t2 : wr.cell? ⟨w.heap.size, 2, none⟩ = some (.slice none 0 0) := (blk_cell HBr.out 2).trans rfl
        have t3 : wr.cell? ⟨w.heap.size, 3, none⟩ = some (.int .i64 0) := (blk_cell HBr.out 3).trans rfl
        have u0_ : wr.frozen? ⟨w.heap.size, 0, none⟩ = false := blk_frozen HBr.out 0
        have u1_ : wr.frozen? ⟨w.heap.size, 1, none⟩ = false := blk_frozen HBr.out 1
        have u2_ : wr.frozen? ⟨w.heap.size, 2, none⟩ = false := blk_frozen HBr.out 2
        have u3_ : wr.frozen? ⟨w.heap.size, 3, none⟩ = false := blk_frozen HBr.out 3
        have HN := Aside0.mk hn
        have HLO := Aside0.mk HI.out.low
        clear hv hn
        go_wp2
        refine bodyPost_ret (v := .agg #[.int .i64 q.words, .int .i64 q.ptrs, .slice Av kk cv, .int .i64 q.tag]) (by simp [results, Tryd.results38, go_sem, *]) rfl ?_
        rw [HLS.out]
        refine ⟨_, rfl, R34_typed HO.out (fun k cs hk e => ?_), ?_⟩
        · have n0 : k ≠ w.heap.size := fun e1 => by
            rw [e1, HBr.out] at e
            injection e with e
            injection e with _ e2 _
            exact absurd e2 (by decide)
          have n1 : k ≠ w.heap.size + 1 + 1 := fun e1 => by
            rw [e1, HBo.out] at e
            injection e with e
            injection e with _ e2 _
            exact absurd e2 (by decide)
          rw [Below.heap_setCell _ _ _ k n0, Below.heap_setCell _ _ _ k n0, Below.heap_setCell _ _ _ k n0, Below.heap_setCell _ _ _ k n0, Below.heap_setCell _ _ _ k n1, Below.heap_setCell _ _ _ k n1, Below.heap_setCell _ _ _ k n1]
        · exact below_set (below_set (below_set (below_set (below_set (below_set (below_set HLO.out (by show w.heap.size ≤ w.heap.size + 1 + 1; omega)) (by show w.heap.size ≤ w.heap.size + 1 + 1; omega)) (by show w.heap.size ≤ w.heap.size + 1 + 1; omega)) (Nat.le_refl _)) (Nat.le_refl _)) (Nat.le_refl _)) (Nat.le_refl _)
  · rw [if_neg hG] at h
    cases h
end Go.Proofs.YtjjcepnadjociaaDoor
