/- Plain facts, merged out of several texts: StubFieldsS, StubIdlFieldsS. -/
import Derived.Test.YtjeipkfeihahdaaGreatDoorLibStep
import Derived.Test.YtjeipkfeihahdaaGreatDoorStubFields
import Derived.Test.YtjeipkfeihahdaaGreatDoorStubIc
import Derived.Test.YtjeipkfeihahdaaGreatDoorStubDecls
import Derived.Test.YtjeipkfeihahdaaGreatDoorPxB
section
namespace Go.Proofs.YtjeipkfeihahdaaGreatDoor
set_option linter.unusedVariables false
set_option linter.unusedSimpArgs false
open Go.RowKit Go.Proofs.YtjeipkfeihahdaaGreatDoor.P Go.Proofs.YtjeipkfeihahdaaGreatDoor.Lem Go.Proofs.YtjeipkfeihahdaaGreatDoorW.PrintWords Go.Proofs.YtjeipkfeihahdaaGreatDoorW.PrintLast Go.Proofs.YtjeipkfeihahdaaGreatDoorW.PrintMore
/-- The field that a declaration comes to, by the reference. -/
def fldS (l0 : List SS) (l1 : List SE) (x : SD) : SF := ⟨ofF l0 l1 x.f2.f0 x.f2.f1, x.f3, x.f4⟩
theorem sorted_f1 {ds : List SD} (h : ordOne ds = true) (i : Nat) (hi : i < ds.length) : ((ordSorted ds)[i]?.getD zD).f1 = (i : Int) := by
 unfold ordOne at h
 rw [List.all_eq_true] at h
 simpa using h i (List.mem_range.2 hi)
theorem sorted_mem {ds : List SD} (i : Nat) (hi : i < ds.length) : (ordSorted ds)[i]?.getD zD ∈ ds := by
 have hl : i < (ordSorted ds).length := by rw [ordSorted_length]; exact hi
 rw [List.getElem?_eq_getElem hl, Option.getD_some]
 exact (ordSorted_perm ds).mem_iff.1 (List.getElem_mem hl)
/-- A field of a number is the one of its place. -/
theorem ord_at {ds : List SD} (h : ordOne ds = true) (i j : Nat) (hi : i < ds.length) (hj : j < ds.length) (e : ds[j].f1 = (i : Int)) : ds[j] = (ordSorted ds)[i]?.getD zD := by
 obtain ⟨j', hj', he⟩ := List.mem_iff_getElem.1 (sorted_mem (ds := ds) i hi)
 have h1 := sorted_f1 h i hi
 rw [← he] at h1 ⊢
 rcases Nat.lt_trichotomy j j' with hlt | rfl | hlt
 ·exact absurd (e.trans h1.symm) (ords_ne ds h j j' hlt hj')
 ·rfl
 ·exact absurd (h1.trans e.symm) (ords_ne ds h j' j hlt hj)
theorem ord_pick (nm : ByteArray) {ds : List SD} (h : ordOne ds = true) (hd : ds.length ≤ 1000) (i : Nat) (hi : i < ds.length) : ∃ j, ∃ hj : j < ds.length, Lem.Ev (fun k => spec_l9Decl.f k nm ds (i : Int)) (j : Int) ∧ ds[j] = (ordSorted ds)[i]?.getD zD := by
 obtain ⟨v, hv, ⟨rfl, ha⟩ | ⟨j, hj, rfl, e, _⟩⟩ := decl9_f nm (i : Int) ds hd
 ·exfalso
  rw [List.any_eq_false] at ha
  exact ha _ (sorted_mem i hi) (decide_eq_true (sorted_f1 h i hi))
 ·exact ⟨j, hj, hv, ord_at h i j hi hj e⟩
/-- A block of one's own, laid and then written. -/
theorem fresh_row {W5 W7 W8 : World} {X : Nat} {z : Array Value} (hb : Below W5.heap.size W5 W7) (hx : W7.heap[X]? = some (.cells z 46 (0, 0))) (hX : W5.heap.size ≤ X) (x : SD) (hz : z.size = 6) (h8 : W8 = W7.setCells X 0 (cD x)) : Below W5.heap.size W5 W8 ∧ At6 W8 X 0 x := by
 subst h8
 obtain ⟨cur, h1, h2, h3⟩ := setCells_row (cD x) 0 W7 z hx (by rw [hz]; exact Nat.le_refl 6)
 obtain ⟨s1, s2, s3, s4⟩ := setCells_same X (cD x) 0 W7
 have e : cur = (cD x).toArray := by
  apply Array.ext'
  rw [h3]
  have : z.toList.drop (0 + (cD x).length) = [] := List.drop_eq_nil_of_le (by rw [Array.length_toList, hz]; exact Nat.le_refl 6)
  rw [this]
  simp
 rw [e] at h1
 refine ⟨hb.trans ⟨s1, s2, s3, Nat.le_of_eq s4.symm, fun k hk => setCells_far (cD x) 0 k (by have := hb.size; omega)⟩, ?_⟩
 exact ⟨(blk_cell h1 0).trans rfl, (blk_cell h1 1).trans rfl, (blk_cell h1 2).trans rfl, (blk_cell h1 3).trans rfl, (blk_cell h1 4).trans rfl, (blk_cell h1 5).trans rfl⟩
section
variable {A0 A1 : Option Addr} {c0 c1 : Nat} {l0 : List SS} {l1 : List SE}
set_option maxHeartbeats 4000000 in
set_option maxRecDepth 100000 in
theorem fieldsS_calls (nm : ByteArray) (D : Option Addr) (cd : Nat) (ds : List SD) (w : World) (hS : Small l0 l1) (h : SchAt w A0 c0 l0 A1 c1 l1) (hC : Kd.C k46 w D ds.length ds) (hcD : ds.length ≤ cd) (hpos : 0 < ds.length) (hlen : ds.length ≤ 10) (hord : ordOne ds = true) :
  Calls Tryz.prog 17 #[schV A0 c0 l0 A1 c1 l1, .agg #[.string nm, .slice D ds.length cd]] w fun e w' => ∃ v, e = .returned v ∧ Kd.R k38 38 w' w.heap.size (fun _ => True) v ((ordSorted ds).map (fldS l0 l1)) ∧ Below w.heap.size w w' := by
 obtain ⟨db, dof, cap_, he, hdb, h6⟩ := decs_of_C (c := cd) hC hpos
 injection he with he1 he2 he3
 subst he1 he3
 clear he2
 have H6 := Aside0.mk h6
 have HDB := Aside0.mk hdb
 have HO := Aside0.mk hord
 have HS := Aside0.mk hS
 have HH := Aside0.mk h
 have HC := Aside0.mk hC
 have HCD := Aside0.mk hcD
 have HP := Aside0.mk hpos
 have HL := Aside0.mk hlen
 clear h6 hdb hord hS h hC hcD hpos hlen
 go_enter Tryz.func17, Tryz.ntmps17
 go_upto_region 1 with fail
 obtain ⟨W1, hW1⟩ : ∃ W1, W1 = (w.alloc (.cells #[.slice A0 l0.length c0, .slice A1 l1.length c1] 26)).alloc (.cells #[.string nm, .slice (some ⟨db, dof, none⟩) ds.length cd] 42) := ⟨_, rfl⟩
 obtain ⟨B, hB⟩ : ∃ B, B = w.heap.size := ⟨_, rfl⟩
 obtain ⟨Y, hY⟩ : ∃ Y, Y = w.heap.size + 1 := ⟨_, rfl⟩
 have HB1 := Aside0.mk (show Below w.heap.size w W1 from by rw [hW1]; exact below_alloc (below_alloc (Below.refl _ _) _) _)
 have q0 : W1.cell? ⟨B, 0, none⟩ = some (.slice A0 l0.length c0) := by rw [hW1, hB]; exact (blk_cell (blk_alloc (heap_alloc_new w _) _) 0).trans rfl
 have q1 : W1.cell? ⟨B, 1, none⟩ = some (.slice A1 l1.length c1) := by rw [hW1, hB]; exact (blk_cell (blk_alloc (heap_alloc_new w _) _) 1).trans rfl
 have r0 : W1.cell? ⟨Y, 0, none⟩ = some (.string nm) := by
  have := (blk_cell (heap_alloc_new (w.alloc (.cells #[.slice A0 l0.length c0, .slice A1 l1.length c1] 26)) (.cells #[.string nm, .slice (some ⟨db, dof, none⟩) ds.length cd] 42)) 0).trans rfl
  rw [World.size_alloc, ← hW1, ← hY] at this
  exact this
 have r1 : W1.cell? ⟨Y, 1, none⟩ = some (.slice (some ⟨db, dof, none⟩) ds.length cd) := by
  have := (blk_cell (heap_alloc_new (w.alloc (.cells #[.slice A0 l0.length c0, .slice A1 l1.length c1] 26)) (.cells #[.string nm, .slice (some ⟨db, dof, none⟩) ds.length cd] 42)) 1).trans rfl
  rw [World.size_alloc, ← hW1, ← hY] at this
  exact this
 rw [← hW1, ← hY, ← hB]
 clear hW1 hB hY
 go_upto_region 3 with ((with_reducible refine gate_dst (N := 8) rfl ?_); refine Kd.R_lit k38 _ 38 ?hg (N := 8) ?hd (xs := ([] : List SF)) (inner := []) (ok := fun _ => True) (okp := fun _ => True) ?hr ?hp (fun _ hk => hk) trivial (Below.refl _ _) (Nat.le_refl _) (by simp) ?_; (case hd => rfl); (case hg => rfl); (case hr => first | (go_simp; done) | (go_simp; rfl)); (case hp => exact (Reps.none _ _)); intro v2 W2 hR2 hb2 hg_ hnew_; have HB2 := Aside0.mk hb2; have HR2 := Aside0.mk (Kd.R_lower hR2 (Nat.le_refl _)); clear hR2 hb2 hg_ hnew_)
 have HLEN := Aside0.mk (ordSorted_length ds)
 have HQ0 := Aside0.mk q0
 have HQ1 := Aside0.mk q1
 have HR0 := Aside0.mk r0
 have HR1 := Aside0.mk r1
 clear q0 q1 r0 r1
 go_loopg [5, 6] ds.length (fun gg v5 v6 wr => ∃ i : Nat, v6 = .int .i64 i ∧ i ≤ ds.length ∧ ds.length - i ≤ gg ∧ Aside0 (Below W1.heap.size W1 wr) ∧ Aside0 (Kd.R k38 38 wr W1.heap.size (fun _ => True) v5 (((ordSorted ds).take i).map (fldS l0 l1))))
 case atStart => exact ⟨0, rfl, by omega, by omega, HB2, HR2⟩
 case round =>
  obtain ⟨i, rfl, hi, hgi, HB3, HO3⟩ := hrel
  clear HB2 HR2
  obtain ⟨W5, rfl⟩ : ∃ W5, W5 = wr := ⟨_, rfl⟩
  have hL10 := HL.out
  have BC := Aside0.mk (HB1.out.trans (HB3.out.mono HB1.out.size))
  have a1 := pw_cell_below HB3.out HR1.out
  by_cases hlt : i < ds.length
  ·have hlt' : (i : Int) < (ds.length : Int) := by omega
   obtain ⟨AO, cO, rfl⟩ := Kd.R_slice HO3.out
   have HLT := Aside0.mk (show i < (ordSorted ds).length ∧ i < ds.length ∧ ds.length ≤ 10 from ⟨by rw [HLEN.out]; exact hlt, hlt, HL.out⟩)
   obtain ⟨j, hj, ⟨K, hK⟩, hje⟩ := ord_pick nm HO.out (by omega) i hlt
   obtain ⟨x, hx⟩ : ∃ x, x = (ordSorted ds)[i]?.getD zD := ⟨_, rfl⟩
   rw [← hx] at hje
   have HXT := Aside0.mk (show (ordSorted ds).take (i + 1) = (ordSorted ds).take i ++ [x] from by rw [hx, List.getElem?_eq_getElem HLT.out.1, Option.getD_some, List.take_succ_eq_append_getElem HLT.out.1])
   have hat : At6 w db (dof + j * 6) x := by
    have := H6.out j hj
    rw [List.getElem?_eq_getElem hj, Option.getD_some, hje] at this
    exact this
   obtain ⟨a2, a3, a4, a5, a6, a7⟩ := hat.below BC.out HDB.out
   have a0 := pw_cell_below HB3.out HR0.out
   have hjn : (j : Int) < (ds.length : Int) := by omega
   have hj0 : (0 : Int) ≤ (j : Int) := by omega
   have PL := Aside0.mk (fun W (hW : Below W5.heap.size W5 W) => spec_l9Decl.calls K nm (some ⟨db, dof, none⟩) cd ds (i : Int) (j : Int) W (Kd.C_below (Kd.C_below HC.out BC.out) hW) HCD.out (hK K (Nat.le_refl _)))
   have PZ := Aside0.mk (fun W (hW : Below w.heap.size w W) => spec_l9Of.calls 1005 A0 c0 l0 A1 c1 l1 x.f2.f0 x.f2.f1 (ofF l0 l1 x.f2.f0 x.f2.f1) W (HH.out.below hW).h0 HH.out.b0 (HH.out.below hW).h1 HH.out.b1 (of9_f l0 l1 HS.out x.f2.f0 x.f2.f1 1005 (Nat.le_refl _)))
   clear hx hje hat K hK
   go_upto_region 5 with fail
   have hd : Below W5.heap.size W5 W5.drew := below_drew1 (Below.refl _ _)
   have BD5 := Aside0.mk hd
   have b0 := pw_cell_below hd a0
   have b1 := pw_cell_below hd a1
   have b2 := pw_cell_below hd a2
   have b3 := pw_cell_below hd a3
   have b4 := pw_cell_below hd a4
   have b5 := pw_cell_below hd a5
   have b6 := pw_cell_below hd a6
   have b7 := pw_cell_below hd a7
   clear hd
   refine start_ (n := 9) (S := fun w' => w'.cell? ⟨Y, 0, none⟩ = some (.string nm) ∧ w'.cell? ⟨Y, 1, none⟩ = some (.slice (some ⟨db, dof, none⟩) ds.length cd) ∧ w'.cell? ⟨db, dof + j * 6, none⟩ = some (.string x.f0) ∧ w'.cell? ⟨db, dof + j * 6 + 1, none⟩ = some (.int .i64 x.f1) ∧ w'.cell? ⟨db, dof + j * 6 + 2, none⟩ = some (.string x.f2.f0) ∧ w'.cell? ⟨db, dof + j * 6 + 3, none⟩ = some (.bool x.f2.f1) ∧ w'.cell? ⟨db, dof + j * 6 + 4, none⟩ = some (.bool x.f3) ∧ w'.cell? ⟨db, dof + j * 6 + 5, none⟩ = some (.int .i64 x.f4)) (ds := [8]) #[false, false, false, false, false, false, false, false, false] (by kernel_rfl) rfl rfl ⟨b0, b1, b2, b3, b4, b5, b6, b7⟩ (fun hHeld => ?_)
   refine pu_ 0 (some 16) rfl ?_
   refine pu_ 3 (some 19) rfl ?_
   refine tk_ 1 (some 17) rfl hHeld ?_
   refine tk_ 2 (some 18) rfl hHeld ?_
   refine join_ (σ := Nat) 1 #[true, true, true, true, true, true, true, true, false] (fun s => [(20, .int .i64 (j : Int)), (21, .pointer (some ⟨db, dof + j * 6, none⟩)), (22, (.agg #[(.string x.f0), (.int .i64 x.f1), (.string x.f2.f0), (.bool x.f2.f1), (.bool x.f3), (.int .i64 x.f4)])), (7, .pointer (some ⟨s, 0, none⟩))]) (fun s w' => Below W5.heap.size W5 w' ∧ w'.heap[s]? = some (.cells #[.string ⟨#[]⟩, .int .i64 0, .string ⟨#[]⟩, .bool false, .bool false, .int .i64 0] 46) ∧ W5.heap.size ≤ s) ?_ ?_
   rotate_left
   ·intro hCont
    refine two_ (i := 4) (j := 7) (Ni := some 20) (Nj := some 7) #[true, true, true, true, true, false, false, false, false] #[true, true, true, true, false, false, false, true, false] rfl rfl rfl rfl (by kernel_rfl) (by decide) (by decide) (fun K hK => ?_) (fun K hK => ?_)
    ·skip
     refine goes_ Tryz.func33 (by kernel_rfl) rfl #[.agg #[.string nm, .slice (some ⟨db, dof, none⟩) ds.length cd], .int .i64 (i : Int)] (by rfl) rfl rfl (by simp only [List.map_toArray, List.map_cons, List.map_nil]; rfl) ?_
     with_reducible refine (PL.out _ BD5.out).mono ?_
     rintro e W6 ⟨rfl, hb6⟩
     refine ⟨_, rfl, ?_⟩
     have BD6 := Aside0.mk (BD5.out.trans (hb6.mono BD5.out.size))
     refine hK.out _ _ ⟨pw_cell_below hb6 hHeld.1, pw_cell_below hb6 hHeld.2.1, pw_cell_below hb6 hHeld.2.2.1, pw_cell_below hb6 hHeld.2.2.2.1, pw_cell_below hb6 hHeld.2.2.2.2.1, pw_cell_below hb6 hHeld.2.2.2.2.2.1, pw_cell_below hb6 hHeld.2.2.2.2.2.2.1, pw_cell_below hb6 hHeld.2.2.2.2.2.2.2⟩ (fun hHeld => ?_)
     clear hK K
     refine no_ 20 ?_
     refine pu_ 5 (some 21) rfl ?_
     refine tk_ 6 (some 22) rfl hHeld ?_
     refine on_ 7 (some 7) rfl (fun K hK => ?_)
     refine va_ ?_
     have HX := Aside0.mk (heap_alloc_new W6 (.cells #[.string ⟨#[]⟩, .int .i64 0, .string ⟨#[]⟩, .bool false, .bool false, .int .i64 0] 46))
     have BA := Aside0.mk (BD6.out.trans ((below_alloc (Below.refl _ _) (.cells #[.string ⟨#[]⟩, .int .i64 0, .string ⟨#[]⟩, .bool false, .bool false, .int .i64 0] 46)).mono BD6.out.size))
     refine hK.out _ _ ⟨pw_cell_below (below_alloc (Below.refl _ _) _) hHeld.1, pw_cell_below (below_alloc (Below.refl _ _) _) hHeld.2.1, pw_cell_below (below_alloc (Below.refl _ _) _) hHeld.2.2.1, pw_cell_below (below_alloc (Below.refl _ _) _) hHeld.2.2.2.1, pw_cell_below (below_alloc (Below.refl _ _) _) hHeld.2.2.2.2.1, pw_cell_below (below_alloc (Below.refl _ _) _) hHeld.2.2.2.2.2.1, pw_cell_below (below_alloc (Below.refl _ _) _) hHeld.2.2.2.2.2.2.1, pw_cell_below (below_alloc (Below.refl _ _) _) hHeld.2.2.2.2.2.2.2⟩ (fun hHeld => ?_)
     clear hK K
     refine no_ 7 ?_
     exact norm_ (by simp only [putAll, Act.put, List.setIfInBounds_toArray, List.set_cons_zero, List.set_cons_succ]) (hCont W6.heap.size _ ⟨BA.out, HX.out, BD6.out.size⟩)
    ·skip
     refine va_ ?_
     have HX := Aside0.mk (show (W5.alloc (.cells #[.string ⟨#[]⟩, .int .i64 0, .string ⟨#[]⟩, .bool false, .bool false, .int .i64 0] 46)).drew.heap[W5.heap.size]? = some (.cells #[.string ⟨#[]⟩, .int .i64 0, .string ⟨#[]⟩, .bool false, .bool false, .int .i64 0] 46) from heap_alloc_new W5 _)
     have BA := Aside0.mk (show Below W5.heap.size W5 (W5.alloc (.cells #[.string ⟨#[]⟩, .int .i64 0, .string ⟨#[]⟩, .bool false, .bool false, .int .i64 0] 46)).drew from BD5.out.trans (below_alloc (Below.refl W5.drew.heap.size W5.drew) (.cells #[.string ⟨#[]⟩, .int .i64 0, .string ⟨#[]⟩, .bool false, .bool false, .int .i64 0] 46)))
     refine hK.out _ _ ⟨pw_cell_below (show Below W5.drew.heap.size W5.drew (W5.alloc (.cells #[.string ⟨#[]⟩, .int .i64 0, .string ⟨#[]⟩, .bool false, .bool false, .int .i64 0] 46)).drew from below_alloc (Below.refl W5.drew.heap.size W5.drew) (.cells #[.string ⟨#[]⟩, .int .i64 0, .string ⟨#[]⟩, .bool false, .bool false, .int .i64 0] 46)) hHeld.1, pw_cell_below (show Below W5.drew.heap.size W5.drew (W5.alloc (.cells #[.string ⟨#[]⟩, .int .i64 0, .string ⟨#[]⟩, .bool false, .bool false, .int .i64 0] 46)).drew from below_alloc (Below.refl W5.drew.heap.size W5.drew) (.cells #[.string ⟨#[]⟩, .int .i64 0, .string ⟨#[]⟩, .bool false, .bool false, .int .i64 0] 46)) hHeld.2.1, pw_cell_below (show Below W5.drew.heap.size W5.drew (W5.alloc (.cells #[.string ⟨#[]⟩, .int .i64 0, .string ⟨#[]⟩, .bool false, .bool false, .int .i64 0] 46)).drew from below_alloc (Below.refl W5.drew.heap.size W5.drew) (.cells #[.string ⟨#[]⟩, .int .i64 0, .string ⟨#[]⟩, .bool false, .bool false, .int .i64 0] 46)) hHeld.2.2.1, pw_cell_below (show Below W5.drew.heap.size W5.drew (W5.alloc (.cells #[.string ⟨#[]⟩, .int .i64 0, .string ⟨#[]⟩, .bool false, .bool false, .int .i64 0] 46)).drew from below_alloc (Below.refl W5.drew.heap.size W5.drew) (.cells #[.string ⟨#[]⟩, .int .i64 0, .string ⟨#[]⟩, .bool false, .bool false, .int .i64 0] 46)) hHeld.2.2.2.1, pw_cell_below (show Below W5.drew.heap.size W5.drew (W5.alloc (.cells #[.string ⟨#[]⟩, .int .i64 0, .string ⟨#[]⟩, .bool false, .bool false, .int .i64 0] 46)).drew from below_alloc (Below.refl W5.drew.heap.size W5.drew) (.cells #[.string ⟨#[]⟩, .int .i64 0, .string ⟨#[]⟩, .bool false, .bool false, .int .i64 0] 46)) hHeld.2.2.2.2.1, pw_cell_below (show Below W5.drew.heap.size W5.drew (W5.alloc (.cells #[.string ⟨#[]⟩, .int .i64 0, .string ⟨#[]⟩, .bool false, .bool false, .int .i64 0] 46)).drew from below_alloc (Below.refl W5.drew.heap.size W5.drew) (.cells #[.string ⟨#[]⟩, .int .i64 0, .string ⟨#[]⟩, .bool false, .bool false, .int .i64 0] 46)) hHeld.2.2.2.2.2.1, pw_cell_below (show Below W5.drew.heap.size W5.drew (W5.alloc (.cells #[.string ⟨#[]⟩, .int .i64 0, .string ⟨#[]⟩, .bool false, .bool false, .int .i64 0] 46)).drew from below_alloc (Below.refl W5.drew.heap.size W5.drew) (.cells #[.string ⟨#[]⟩, .int .i64 0, .string ⟨#[]⟩, .bool false, .bool false, .int .i64 0] 46)) hHeld.2.2.2.2.2.2.1, pw_cell_below (show Below W5.drew.heap.size W5.drew (W5.alloc (.cells #[.string ⟨#[]⟩, .int .i64 0, .string ⟨#[]⟩, .bool false, .bool false, .int .i64 0] 46)).drew from below_alloc (Below.refl W5.drew.heap.size W5.drew) (.cells #[.string ⟨#[]⟩, .int .i64 0, .string ⟨#[]⟩, .bool false, .bool false, .int .i64 0] 46)) hHeld.2.2.2.2.2.2.2⟩ (fun hHeld => ?_)
     clear hK K
     refine no_ 7 ?_
     refine on_ 4 (some 20) rfl (fun K hK => ?_)
     refine goes_ Tryz.func33 (by kernel_rfl) rfl #[.agg #[.string nm, .slice (some ⟨db, dof, none⟩) ds.length cd], .int .i64 (i : Int)] (by rfl) rfl rfl (by simp only [List.map_toArray, List.map_cons, List.map_nil]; rfl) ?_
     with_reducible refine (PL.out _ BA.out).mono ?_
     rintro e W6 ⟨rfl, hb6⟩
     refine ⟨_, rfl, ?_⟩
     have BD6 := Aside0.mk (BA.out.trans (hb6.mono BA.out.size))
     have HX6 := Aside0.mk ((hb6.block _ (blk_lt HX.out)).trans HX.out)
     refine hK.out _ _ ⟨pw_cell_below hb6 hHeld.1, pw_cell_below hb6 hHeld.2.1, pw_cell_below hb6 hHeld.2.2.1, pw_cell_below hb6 hHeld.2.2.2.1, pw_cell_below hb6 hHeld.2.2.2.2.1, pw_cell_below hb6 hHeld.2.2.2.2.2.1, pw_cell_below hb6 hHeld.2.2.2.2.2.2.1, pw_cell_below hb6 hHeld.2.2.2.2.2.2.2⟩ (fun hHeld => ?_)
     clear hK K
     refine no_ 20 ?_
     refine pu_ 5 (some 21) rfl ?_
     refine tk_ 6 (some 22) rfl hHeld ?_
     exact norm_ (by simp only [putAll, Act.put, List.setIfInBounds_toArray, List.set_cons_zero, List.set_cons_succ]) (hCont W5.heap.size _ ⟨BD6.out, HX6.out, Nat.le_refl _⟩)
   rintro X W7 ⟨hb7, hx7, hX7⟩
   have hHeld : W7.cell? ⟨Y, 0, none⟩ = some (.string nm) ∧ W7.cell? ⟨Y, 1, none⟩ = some (.slice (some ⟨db, dof, none⟩) ds.length cd) ∧ W7.cell? ⟨db, dof + j * 6, none⟩ = some (.string x.f0) ∧ W7.cell? ⟨db, dof + j * 6 + 1, none⟩ = some (.int .i64 x.f1) ∧ W7.cell? ⟨db, dof + j * 6 + 2, none⟩ = some (.string x.f2.f0) ∧ W7.cell? ⟨db, dof + j * 6 + 3, none⟩ = some (.bool x.f2.f1) ∧ W7.cell? ⟨db, dof + j * 6 + 4, none⟩ = some (.bool x.f3) ∧ W7.cell? ⟨db, dof + j * 6 + 5, none⟩ = some (.int .i64 x.f4) := ⟨pw_cell_below hb7 a0, pw_cell_below hb7 a1, pw_cell_below hb7 a2, pw_cell_below hb7 a3, pw_cell_below hb7 a4, pw_cell_below hb7 a5, pw_cell_below hb7 a6, pw_cell_below hb7 a7⟩
   refine norm_ (a' := ?_) ?_ ?_
   rotate_left
   ·simp only [putAll, Act.put, List.setIfInBounds_toArray, List.set_cons_zero, List.set_cons_succ]
    rfl
   refine la_ 8 none rfl (fun K hK => ?_)
   refine store_seg (g := X) (o := 0) (cur := _) (seg := cD x) rfl rfl (by rfl) (by rfl) (by rfl) rfl (by kernel_rfl) (by simp [cD, Value.oneCell']) hx7 (by simp [cD]) ?_
   intro W8 hW8
   obtain ⟨hb8, hA8⟩ := fresh_row hb7 hx7 hX7 x rfl hW8
   have HB8 := Aside0.mk hb8
   have HA8 := Aside0.mk hA8
   clear hW8 hb8 hA8 hb7 hx7 hX7 hHeld
   refine hK.out _ _ ?_
   clear hK K
   refine done_ (by kernel_rfl) ?_
   clear a0 a1 a2 a3 a4 a5 a6 a7 b0 b1 b2 b3 b4 b5 b6 b7
   go_upto_region 6 with fail
   have hd8 : Below W8.heap.size W8 W8.drew := below_drew1 (Below.refl _ _)
   have HO5 := Aside0.mk (Kd.R_below (Kd.R_below HO3.out HB8.out) hd8)
   have BW5 := Aside0.mk (HB3.out.trans ((HB8.out.trans (hd8.mono HB8.out.size)).mono HB3.out.size))
   have BD5 := Aside0.mk (HB1.out.trans (BW5.out.mono HB1.out.size))
   have p0 := pw_cell_below BW5.out HQ0.out
   have p1 := pw_cell_below BW5.out HQ1.out
   have p2 : W8.drew.cell? ⟨X, 2, none⟩ = some (.string x.f2.f0) := pw_cell_below hd8 HA8.out.c2
   have p3 : W8.drew.cell? ⟨X, 3, none⟩ = some (.bool x.f2.f1) := pw_cell_below hd8 HA8.out.c3
   have p4 : W8.drew.cell? ⟨X, 4, none⟩ = some (.bool x.f3) := pw_cell_below hd8 HA8.out.c4
   have p5 : W8.drew.cell? ⟨X, 5, none⟩ = some (.int .i64 x.f4) := pw_cell_below hd8 HA8.out.c5
   clear hd8
   refine start_ (n := 13) (S := fun w' => w'.cell? ⟨B, 0, none⟩ = some (.slice A0 l0.length c0) ∧ w'.cell? ⟨B, 1, none⟩ = some (.slice A1 l1.length c1) ∧ w'.cell? ⟨X, 2, none⟩ = some (.string x.f2.f0) ∧ w'.cell? ⟨X, 3, none⟩ = some (.bool x.f2.f1) ∧ w'.cell? ⟨X, 4, none⟩ = some (.bool x.f3) ∧ w'.cell? ⟨X, 5, none⟩ = some (.int .i64 x.f4)) (ds := [11]) #[false, false, false, false, false, false, false, false, false, false, false, false, false] (by kernel_rfl) rfl rfl ⟨p0, p1, p2, p3, p4, p5⟩ (fun hHeld => ?_)
   refine pu_ 0 (some 23) rfl ?_
   refine pu_ 2 (some 25) rfl ?_
   refine pu_ 5 (some 28) rfl ?_
   refine pu_ 7 (some 30) rfl ?_
   refine tk_ 1 (some 24) rfl hHeld ?_
   refine tk_ 3 (some 26) rfl hHeld ?_
   refine tk_ 6 (some 29) rfl hHeld ?_
   refine tk_ 8 (some 31) rfl hHeld ?_
   refine on_ 4 (some 27) rfl (fun K hK => ?_)
   refine goes_ Tryz.func32 (by kernel_rfl) rfl #[.agg #[.slice A0 l0.length c0, .slice A1 l1.length c1], .agg #[.string x.f2.f0, .bool x.f2.f1]] (by rfl) rfl rfl (by simp only [List.map_toArray, List.map_cons, List.map_nil]; rfl) ?_
   with_reducible refine (PZ.out _ BD5.out).mono ?_
   rintro e W6 ⟨rfl, hb6⟩
   refine ⟨_, rfl, ?_⟩
   have HO6 := Aside0.mk (Kd.R_below HO5.out hb6)
   have BW6 := Aside0.mk (BW5.out.trans (hb6.mono BW5.out.size))
   refine hK.out _ _ ⟨pw_cell_below hb6 hHeld.1, pw_cell_below hb6 hHeld.2.1, pw_cell_below hb6 hHeld.2.2.1, pw_cell_below hb6 hHeld.2.2.2.1, pw_cell_below hb6 hHeld.2.2.2.2.1, pw_cell_below hb6 hHeld.2.2.2.2.2⟩ (fun hHeld => ?_)
   clear hK K
   refine no_ 27 ?_
   refine pu_ 9 (some 32) rfl ?_
   refine on_ 10 (some 33) rfl (fun K hK => ?_)
   refine va_ ?_
   refine hK.out _ _ ⟨pw_cell_below (below_alloc (Below.refl _ _) _) hHeld.1, pw_cell_below (below_alloc (Below.refl _ _) _) hHeld.2.1, pw_cell_below (below_alloc (Below.refl _ _) _) hHeld.2.2.1, pw_cell_below (below_alloc (Below.refl _ _) _) hHeld.2.2.2.1, pw_cell_below (below_alloc (Below.refl _ _) _) hHeld.2.2.2.2.1, pw_cell_below (below_alloc (Below.refl _ _) _) hHeld.2.2.2.2.2⟩ (fun hHeld => ?_)
   clear hK K
   refine no_ 33 ?_
   refine la_ 11 (some 34) rfl (fun K hK => ?_)
   refine fld_append_step (w0 := W1) (by rfl) (.tmp 23) (.tmp 33) rfl (by first | rfl | (go_simp; done) | (go_simp; rfl)) (by first | rfl | (go_simp; done) | (go_simp; rfl)) HO6.out BW6.out (fldS l0 l1 x) (by rw [List.length_map, List.length_take]; have := HLT.out; omega) ?_
   intro v7 W7 hR7 hb7
   obtain ⟨A7, n7, c7, rfl⟩ : ∃ A n c, v7 = Value.slice A n c := by obtain ⟨A, c, e⟩ := Kd.R_slice hR7; exact ⟨A, _, c, e⟩
   have HR7 := Aside0.mk hR7
   have HB7 := Aside0.mk hb7
   clear hR7 hb7 hb6
   refine hK.out _ _ ?_
   clear hK K
   refine no_ 34 ?_
   refine pu_ 12 (some 5) rfl ?_
   refine done_ (by kernel_rfl) ?_
   clear p0 p1 p2 p3 p4 p5
   go_wp2_with fail
   go_roundg (ds.length - (i + 1))
   case measure => omega
   case rel =>
    refine ⟨i + 1, ?_, by omega, by omega, HB7, ⟨?_⟩⟩
    ·go_num
    ·rw [HXT.out, List.map_append]
     exact HR7.out
  ·obtain rfl : i = ds.length := by omega
   go_wp2_with fail
   go_ret
   have e := HO3.out
   rw [List.take_of_length_le (by rw [HLEN.out]; exact Nat.le_refl _)] at e
   exact ⟨_, rfl, Kd.R_lower e HB1.out.size, BC.out⟩
end
end Go.Proofs.YtjeipkfeihahdaaGreatDoor
end
section
namespace Go.Proofs.YtjeipkfeihahdaaGreatDoor
set_option linter.unusedVariables false
set_option linter.unusedSimpArgs false
open Go.RowKit Go.Proofs.YtjeipkfeihahdaaGreatDoor.P Go.Proofs.YtjeipkfeihahdaaGreatDoor.Lem Go.Proofs.YtjeipkfeihahdaaGreatDoorW.PrintWords Go.Proofs.YtjeipkfeihahdaaGreatDoorW.PrintLast Go.Proofs.YtjeipkfeihahdaaGreatDoorW.PrintMore
theorem structAt_l (a : ByteArray) (l : List SS) (l1 : List SE) (hl : l.length ≤ 1000) : ∀ m i k, m + i = l.length → m < k → ∃ v, spec_l9Struct.l0 k a (i : Int) l l1 = some v ∧ ((findS (l.drop i) a = none ∧ v = -1) ∨ ∃ j, ∃ h : j < l.length, v = (j : Int) ∧ findS (l.drop i) a = some l[j]) := by
 intro m
 induction m with
 | zero =>
  intro i k hm hk
  obtain ⟨k, rfl⟩ : ∃ j, k = j + 1 := ⟨k - 1, by omega⟩
  unfold spec_l9Struct.l0
  rw [if_neg (by omega), List.drop_eq_nil_of_le (by omega)]
  exact ⟨-1, rfl, .inl ⟨rfl, rfl⟩⟩
 | succ m ih =>
  intro i k hm hk
  obtain ⟨k, rfl⟩ : ∃ j, k = j + 1 := ⟨k - 1, by omega⟩
  have hi : i < l.length := by omega
  obtain ⟨v, hv, hvi⟩ := ih (i + 1) k (by omega) (by omega)
  have e' : spec_l9Struct.l0 k a ((i : Int) + 1) l l1 = some v := hv
  unfold spec_l9Struct.l0
  rw [if_pos (by omega), if_pos (by omega), wrap64_id (by omega) (by omega), e', rdS_at l i hi, List.drop_eq_getElem_cons hi]
  unfold findS
  rw [List.find?_cons]
  by_cases h : l[i].f0.toList = a.toList
  ·rw [if_pos h, decide_eq_true h]
   exact ⟨_, rfl, .inr ⟨i, hi, rfl, rfl⟩⟩
  ·rw [if_neg h, decide_eq_false h]
   exact ⟨v, rfl, hvi⟩
theorem structAt_f (a : ByteArray) (l : List SS) (l1 : List SE) (hl : l.length ≤ 1000) : ∃ v, spec_l9Struct.f 1002 l l1 a = some v ∧ ((findS l a = none ∧ v = -1) ∨ ∃ j, ∃ h : j < l.length, v = (j : Int) ∧ findS l a = some l[j]) := by
 unfold spec_l9Struct.f
 exact structAt_l a l l1 hl l.length 0 1002 (by omega) (by omega)
theorem fine_has_len {l0 : List SS} {l1 : List SE} (hS : Small l0 l1) (hIC : IC l0 l1 = 0) {x : SS} (hx : x ∈ l0) : 0 < x.f1.length ∧ x.f1.length ≤ 10 ∧ ordOne x.f1 = true := by
 obtain ⟨h1, _, _, h2, _⟩ := ic_zero l0 l1 hIC
 unfold ordF at h2
 rw [List.all_eq_true] at h2
 exact ⟨(formed_lots h1).2 x hx, (hS.s0 x hx).2.1, h2 x hx⟩
section
variable {A0 A1 : Option Addr} {c0 c1 : Nat} {l0 : List SS} {l1 : List SE}
set_option maxHeartbeats 4000000 in
set_option maxRecDepth 100000 in
theorem specF_none (a : ByteArray) (w : World) (hS : Small l0 l1) (h : SchAt w A0 c0 l0 A1 c1 l1) (hno : IC l0 l1 ≠ 0 ∨ findS l0 a = none) :
  Calls Tryz.prog 7 #[schV A0 c0 l0 A1 c1 l1, .string a] w fun e w' => ∃ A c, e = .returned (.tuple #[.slice A 0 c, .bool false]) ∧ Below w.heap.size w w' := by
 obtain ⟨v, hv, hv2⟩ := structAt_f a l0 l1 (by have := hS.n0; omega)
 have hvn : IC l0 l1 ≠ 0 ∨ v < 0 := by
  rcases hno with h1 | h1
  ·exact .inl h1
  ·rcases hv2 with ⟨_, rfl⟩ | ⟨j, hj, _, e⟩
   ·exact .inr (by decide)
   ·rw [h1] at e; cases e
 have PS := Aside0.mk (fun W (hW : Below w.heap.size w W) => spec_l9Struct.calls 1002 A0 c0 l0 A1 c1 l1 a v W (h.below hW).h0 h.b0 (h.below hW).h1 h.b1 hv)
 have PI := Aside0.mk (fun W (hW : Below w.heap.size w W) => spec_calls (l0 := l0) (l1 := l1) (A0 := A0) (c0 := c0) (A1 := A1) (c1 := c1) W hS (h.below hW))
 clear hv hv2 hS h hno
 generalize IC l0 l1 = ic at *
 go_enter Tryz.func7, Tryz.ntmps7
 go_upto_region 1 with fail
 obtain ⟨w1, hw1⟩ : ∃ w1, w1 = w.alloc (.cells #[.slice A0 l0.length c0, .slice A1 l1.length c1] 26) := ⟨_, rfl⟩
 obtain ⟨B, hB⟩ : ∃ B, B = w.heap.size := ⟨_, rfl⟩
 have q0 : w1.cell? ⟨B, 0, none⟩ = some (.slice A0 l0.length c0) := by rw [hw1, hB]; exact (blk_cell (heap_alloc_new w _) 0).trans rfl
 have q1 : w1.cell? ⟨B, 1, none⟩ = some (.slice A1 l1.length c1) := by rw [hw1, hB]; exact (blk_cell (heap_alloc_new w _) 1).trans rfl
 have HW := Aside0.mk (show Below w.heap.size w w1 from by rw [hw1]; exact below_alloc (Below.refl _ _) _)
 rw [← hw1, ← hB]
 clear hw1 hB
 by_cases hi : ic = 0
 ·subst hi
  have hv0 : v < 0 := by omega
  go_wp2_with (first | (go_at_call 15; refine (PS.out w1 HW.out).mono ?_; rintro e W1 ⟨rfl, hb1⟩; have HB1 := Aside0.mk (HW.out.trans (hb1.mono HW.out.size)); have q2 := pw_cell_below hb1 q0; have q3 := pw_cell_below hb1 q1; clear hb1) | (go_at_call 16; refine (PI.out W1 HB1.out).mono ?_; rintro e W2 ⟨rfl, hb2⟩; have HB2 := Aside0.mk (HB1.out.trans (hb2.mono HB1.out.size)); clear hb2))
  go_ret2
  exact ⟨_, _, rfl, HB2.out.trans ((below_alloc (Below.refl _ _) _).mono HB2.out.size)⟩
 ·go_wp2_with (first | (go_at_call 15; refine (PS.out w1 HW.out).mono ?_; rintro e W1 ⟨rfl, hb1⟩; have HB1 := Aside0.mk (HW.out.trans (hb1.mono HW.out.size)); have q2 := pw_cell_below hb1 q0; have q3 := pw_cell_below hb1 q1; clear hb1) | (go_at_call 16; refine (PI.out W1 HB1.out).mono ?_; rintro e W2 ⟨rfl, hb2⟩; have HB2 := Aside0.mk (HB1.out.trans (hb2.mono HB1.out.size)); clear hb2))
  go_ret2
  exact ⟨_, _, rfl, HB2.out.trans ((below_alloc (Below.refl _ _) _).mono HB2.out.size)⟩
set_option maxHeartbeats 4000000 in
set_option maxRecDepth 100000 in
theorem specF_some (a : ByteArray) (x : SS) (w : World) (hS : Small l0 l1) (h : SchAt w A0 c0 l0 A1 c1 l1) (hIC : IC l0 l1 = 0) (hx : findS l0 a = some x) :
  Calls Tryz.prog 7 #[schV A0 c0 l0 A1 c1 l1, .string a] w fun e w' => ∃ v, e = .returned (.tuple #[v, .bool true]) ∧ Kd.R k38 38 w' w.heap.size (fun _ => True) v ((ordSorted x.f1).map (fldS l0 l1)) ∧ Below w.heap.size w w' := by
 obtain ⟨v, hv, ⟨hn, _⟩ | ⟨j, hj, rfl, hx2⟩⟩ := structAt_f a l0 l1 (by have := hS.n0; omega)
 ·rw [hx] at hn; cases hn
 have hxj : l0[j] = x := by rw [hx] at hx2; exact (Option.some.inj hx2).symm
 obtain ⟨h1, h2, h3⟩ := fine_has_len hS hIC (hxj ▸ List.getElem_mem hj)
 obtain ⟨ad, _, _, rfl, h0, _, _, _⟩ := at_T42 h.h0 0 (by omega) (by omega)
 obtain ⟨sb, so, rfl⟩ : ∃ b o, ad = ⟨b, o, none⟩ := by
  obtain ⟨b, o, e⟩ := spot_none h0
  refine ⟨ad.block, ad.off, ?_⟩
  have hspot : (ad.add ((0 : Int).toNat * 2)).spot = none := by rw [e]
  have : ad.add ((0 : Int).toNat * 2) = ad := by unfold Addr.add; simp
  rw [this] at hspot
  cases ad; cases hspot; rfl
 clear h0
 obtain ⟨ad, D, cd, e0, x0, x1, hcd, hC⟩ := at_T42 h.h0 (j : Int) (by omega) (by omega)
 cases e0
 rw [Int.toNat_natCast, rdS_at l0 j hj, hxj] at x0 x1
 rw [rdS_at l0 j hj, hxj] at hcd hC
 rw [add_none] at x0 x1
 have PS := Aside0.mk (fun W (hW : Below w.heap.size w W) => spec_l9Struct.calls 1002 (some ⟨sb, so, none⟩) c0 l0 A1 c1 l1 a (j : Int) W (h.below hW).h0 h.b0 (h.below hW).h1 h.b1 hv)
 have PI := Aside0.mk (fun W (hW : Below w.heap.size w W) => spec_calls (l0 := l0) (l1 := l1) (A0 := some ⟨sb, so, none⟩) (c0 := c0) (A1 := A1) (c1 := c1) W hS (h.below hW))
 rw [hIC] at PI
 have PD := Aside0.mk (fun W (hW : Below w.heap.size w W) => fieldsS_calls (l0 := l0) (l1 := l1) (A0 := some ⟨sb, so, none⟩) (c0 := c0) (A1 := A1) (c1 := c1) x.f0 D cd x.f1 W hS (h.below hW) (Kd.C_below hC hW) hcd h1 h2 h3)
 have HX0 := Aside0.mk x0
 have HX1 := Aside0.mk x1
 have hjn : (j : Int) < (l0.length : Int) := by omega
 have hj0 : ¬ (j : Int) < 0 := by omega
 clear hv hS h hIC hx hx2 hxj h1 h2 h3 x0 x1 hcd hC
 go_enter Tryz.func7, Tryz.ntmps7
 go_upto_region 1 with fail
 obtain ⟨w1, hw1⟩ : ∃ w1, w1 = w.alloc (.cells #[.slice (some ⟨sb, so, none⟩) l0.length c0, .slice A1 l1.length c1] 26) := ⟨_, rfl⟩
 obtain ⟨B, hB⟩ : ∃ B, B = w.heap.size := ⟨_, rfl⟩
 have q0 : w1.cell? ⟨B, 0, none⟩ = some (.slice (some ⟨sb, so, none⟩) l0.length c0) := by rw [hw1, hB]; exact (blk_cell (heap_alloc_new w _) 0).trans rfl
 have q1 : w1.cell? ⟨B, 1, none⟩ = some (.slice A1 l1.length c1) := by rw [hw1, hB]; exact (blk_cell (heap_alloc_new w _) 1).trans rfl
 have HW := Aside0.mk (show Below w.heap.size w w1 from by rw [hw1]; exact below_alloc (Below.refl _ _) _)
 rw [← hw1, ← hB]
 clear hw1 hB
 go_upto_region 4 with (first | (go_at_call 15; refine (PS.out w1 HW.out).mono ?_; rintro e W1 ⟨rfl, hb1⟩; have HB1 := Aside0.mk (HW.out.trans (hb1.mono HW.out.size)); have q2 := pw_cell_below hb1 q0; have q3 := pw_cell_below hb1 q1; clear hb1) | (go_at_call 16; refine (PI.out W1 HB1.out).mono ?_; rintro e W2 ⟨rfl, hb2⟩; have HB2 := Aside0.mk (HB1.out.trans (hb2.mono HB1.out.size)); have q4 := pw_cell_below hb2 q2; have q5 := pw_cell_below hb2 q3; clear hb2))
 have hd : Below W2.heap.size W2 W2.drew := below_drew1 (Below.refl _ _)
 have BD5 := Aside0.mk (HB2.out.trans (hd.mono HB2.out.size))
 have b0 := pw_cell_below hd q4
 have b1 := pw_cell_below hd q5
 have b2 := pw_cell_below BD5.out HX0.out
 have b3 := pw_cell_below BD5.out HX1.out
 have PF := PD
 clear hd q0 q1 q2 q3 q4 q5
 refine start_ (n := 9) (S := fun w' => w'.cell? ⟨B, 0, none⟩ = some (.slice (some ⟨sb, so, none⟩) l0.length c0) ∧ w'.cell? ⟨B, 1, none⟩ = some (.slice A1 l1.length c1) ∧ w'.cell? ⟨sb, so + j * 2, none⟩ = some (.string x.f0) ∧ w'.cell? ⟨sb, so + j * 2 + 1, none⟩ = some (.slice D x.f1.length cd)) (ds := []) #[false, false, false, false, false, false, false, false, false] (by kernel_rfl) rfl rfl ⟨b0, b1, b2, b3⟩ (fun hHeld => ?_)
 refine pu_ 1 (some 19) rfl ?_
 refine pu_ 3 (some 21) rfl ?_
 refine tk_ 0 (some 18) rfl hHeld ?_
 refine tk_ 2 (some 20) rfl hHeld ?_
 refine pu_ 4 (some 22) rfl ?_
 refine tk_ 5 (some 23) rfl hHeld ?_
 refine on_ 6 (some 24) rfl (fun K hK => ?_)
 refine goes_ Tryz.func17 (by kernel_rfl) rfl #[.agg #[.slice (some ⟨sb, so, none⟩) l0.length c0, .slice A1 l1.length c1], .agg #[.string x.f0, .slice D x.f1.length cd]] (by rfl) rfl rfl (by simp only [List.map_toArray, List.map_cons, List.map_nil]; rfl) ?_
 with_reducible refine (PF.out _ BD5.out).mono ?_
 rintro e W6 ⟨v6, rfl, hR6, hb6⟩
 refine ⟨_, rfl, ?_⟩
 have HR6 := Aside0.mk hR6
 have HB6 := Aside0.mk hb6
 clear hR6
 refine hK.out _ _ ⟨pw_cell_below hb6 hHeld.1, pw_cell_below hb6 hHeld.2.1, pw_cell_below hb6 hHeld.2.2.1, pw_cell_below hb6 hHeld.2.2.2⟩ (fun hHeld => ?_)
 clear hK K
 refine no_ 24 ?_
 refine pu_ 7 (some 4) rfl ?_
 refine pu_ 8 (some 5) rfl ?_
 refine done_ (by kernel_rfl) ?_
 clear b0 b1 b2 b3
 go_wp2_with fail
 go_ret2
 exact ⟨_, rfl, Kd.R_lower HR6.out BD5.out.size, BD5.out.trans (HB6.out.mono BD5.out.size)⟩
end
end Go.Proofs.YtjeipkfeihahdaaGreatDoor
end
