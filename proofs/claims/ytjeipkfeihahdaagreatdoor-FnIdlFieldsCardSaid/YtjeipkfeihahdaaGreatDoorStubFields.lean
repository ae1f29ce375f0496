/- The fields of a struct of a schema that is fine, by their numbers: the first package. -/
import Derived.Test.YtjeipkfeihahdaaGreatDoorLibStep
import Derived.Test.YtjeipkfeihahdaaGreatDoorStubIdl
namespace Go.Proofs.YtjeipkfeihahdaaGreatDoor
set_option linter.unusedVariables false
set_option linter.unusedSimpArgs false
open Go.RowKit Go.Proofs.YtjeipkfeihahdaaGreatDoor.P Go.Proofs.YtjeipkfeihahdaaGreatDoor.Lem Go.Proofs.YtjeipkfeihahdaaGreatDoorW.PrintWords Go.Proofs.YtjeipkfeihahdaaGreatDoorW.PrintLast Go.Proofs.YtjeipkfeihahdaaGreatDoorW.PrintMore
abbrev SF := S38
/-- The field that a declaration comes to. -/
def fldF (l0 : List SS) (l1 : List SE) (x : SD) : SF := ⟨sizeF l0 l1 x.f2.f0 x.f2.f1, x.f3, x.f4⟩
section
variable {ops : Array Oper} {o : Oper} {a : Act} {Q : Exit → Act → World → Prop} {Kc : Act → World → Prop}
/-- A field is put behind the others, in a region that draws its order. -/
theorem fld_append_step {w0 W : World} {v : Value} {xs : List SF} (hw : Region.wanted o (yielded ops a.tmps) = true) (s x : Operand) (ho : o.op = .call { callee := .builtin .append, args := #[s, x], argTypes := #[29, 29] }) (hs : a.eval s = v) (hx : a.eval x = .slice (some ⟨W.heap.size, 0, none⟩) 1 1)
  (hR : Kd.R k38 38 W w0.heap.size (fun _ => True) v xs) (hB : Below w0.heap.size w0 W) (f : SF) (hu : xs.length ≤ 1000)
  (hc : ∀ v' W', Kd.R k38 38 W' w0.heap.size (fun _ => True) v' (xs ++ [f]) → Below w0.heap.size w0 W' → Kc (a.put o.dst v') W') :
  if Region.wanted o (yielded ops a.tmps) = true then Oper.wp Tryz.prog o a (W.alloc (.cells #[.int .i64 f.f0, .bool f.f1, .int .i64 f.f2] 38)) Kc Q else Kc (a.put o.dst undef) (W.alloc (.cells #[.int .i64 f.f0, .bool f.f1, .int .i64 f.f2] 38)) := by
 refine Kd.R_append_step k38 (w0 := w0) (W := W) w0.heap.size hw s x 29 38 (.agg #[.int .i64 0, .bool false, .int .i64 0]) 24 ho Tryz.underlying29 info38 rfl (by decide) (by omega) v xs f [.int .i64 f.f0, .bool f.f1, .int .i64 f.f2] (fun _ => True) (fun _ => False) hs hx
  (k38_mkM _ _ _ f) (fun _ hk => hk.elim) (fun _ _ => trivial) hR hB hB.size (by omega) ?_
 intro v1 W1 h1 h2 _ _
 exact hc v1 W1 h1 h2
end
section
variable {A0 A1 : Option Addr} {c0 c1 : Nat} {l0 : List SS} {l1 : List SE}
set_option maxHeartbeats 4000000 in
set_option maxRecDepth 100000 in
theorem fields_calls (nm : ByteArray) (D : Option Addr) (cD : Nat) (ds : List SD) (w : World) (hSB : SBw w) (hS : Small l0 l1) (h : SchAt w A0 c0 l0 A1 c1 l1) (hC : Kd.C k46 w D ds.length ds) (hpos : 0 < ds.length) (hlen : ds.length ≤ 10) (hn : ∀ d ∈ ds, d.f2.f0.size ≤ 1000) :
  Calls Tryz.prog 14 #[schV A0 c0 l0 A1 c1 l1, .agg #[.string nm, .slice D ds.length cD]] w fun e w' => ∃ v, e = .returned v ∧ Kd.R k38 38 w' w.heap.size (fun _ => True) v ((ordSorted ds).map (fldF l0 l1)) ∧ Below w.heap.size w w' := by
 have hn' : ∀ d ∈ ordSorted ds, d.f2.f0.size ≤ 1000 := fun d hd => hn d ((ordSorted_perm ds).mem_iff.1 hd)
 have HN := Aside0.mk hn'
 have HSB := Aside0.mk hSB
 have HS := Aside0.mk hS
 have HH := Aside0.mk h
 have HC := Aside0.mk hC
 have HP := Aside0.mk hpos
 have HL := Aside0.mk hlen
 clear hn hn' hSB hS h hC hpos hlen
 go_enter Tryz.func14, Tryz.ntmps14
 go_upto_region 2 with fail
 obtain ⟨W1, hW1⟩ : ∃ W1, W1 = (w.alloc (.cells #[.slice A0 l0.length c0, .slice A1 l1.length c1] 26)).alloc (.cells #[.string nm, .slice D ds.length cD] 42) := ⟨_, rfl⟩
 obtain ⟨B, hB⟩ : ∃ B, B = w.heap.size := ⟨_, rfl⟩
 have HB1 := Aside0.mk (show Below w.heap.size w W1 from by rw [hW1]; exact below_alloc (below_alloc (Below.refl _ _) _) _)
 have q0 : W1.cell? ⟨B, 0, none⟩ = some (.slice A0 l0.length c0) := by rw [hW1, hB]; exact (blk_cell (blk_alloc (heap_alloc_new w _) _) 0).trans rfl
 have q1 : W1.cell? ⟨B, 1, none⟩ = some (.slice A1 l1.length c1) := by rw [hW1, hB]; exact (blk_cell (blk_alloc (heap_alloc_new w _) _) 1).trans rfl
 have r0 : W1.cell? ⟨B + 1, 0, none⟩ = some (.string nm) := by
  have := (blk_cell (heap_alloc_new (w.alloc (.cells #[.slice A0 l0.length c0, .slice A1 l1.length c1] 26)) (.cells #[.string nm, .slice D ds.length cD] 42)) 0).trans rfl
  rw [World.size_alloc, ← hW1, ← hB] at this
  exact this
 have r1 : W1.cell? ⟨B + 1, 1, none⟩ = some (.slice D ds.length cD) := by
  have := (blk_cell (heap_alloc_new (w.alloc (.cells #[.slice A0 l0.length c0, .slice A1 l1.length c1] 26)) (.cells #[.string nm, .slice D ds.length cD] 42)) 1).trans rfl
  rw [World.size_alloc, ← hW1, ← hB] at this
  exact this
 rw [← hW1, ← hB]
 clear hW1 hB
 have hby := byOrd_calls nm D cD ds HP.out (by have := HL.out; omega) W1 (decs_of_C (Kd.C_below HC.out HB1.out) HP.out)
 go_upto_region 3 with (go_at_call 28; refine hby.mono ?_; clear hby; rintro e W2 ⟨⟨g, cap, rfl, hcap, hge, hgl, h6⟩, hb2⟩; have HB2 := Aside0.mk hb2; have H6 := Aside0.mk h6; have HGL := Aside0.mk hgl; clear hge hgl h6 hb2)
 have HLEN := Aside0.mk (ordSorted_length ds)
 have HQ0 := Aside0.mk (pw_cell_below HB2.out q0)
 have HQ1 := Aside0.mk (pw_cell_below HB2.out q1)
 have HB0 := Aside0.mk (HB1.out.trans (HB2.out.mono HB1.out.size))
 clear q0 q1 r0 r1
 go_loopg [5, 11] ds.length (fun gg v5 v11 wr => ∃ i : Nat, v11 = .int .i64 i ∧ i ≤ ds.length ∧ ds.length - i ≤ gg ∧ Aside0 (Below W2.heap.size W2 wr) ∧ Aside0 (Kd.R k38 38 wr W2.heap.size (fun _ => True) v5 (((ordSorted ds).take i).map (fldF l0 l1))))
 case atStart => exact ⟨0, rfl, by omega, by omega, ⟨Below.refl _ _⟩, ⟨Kd.R_nil _ _ _ _ _⟩⟩
 case round =>
  obtain ⟨i, rfl, hi, hgi, HB3, HO3⟩ := hrel
  by_cases hlt : i < ds.length
  ·obtain ⟨e0, e1, e2, e3, e4, e5⟩ := (H6.out i hlt).below HB3.out HGL.out
   have hlt' : (i : Int) < (ds.length : Int) := by omega
   have HLT := Aside0.mk (show i < (ordSorted ds).length ∧ i < ds.length ∧ ds.length ≤ 10 from ⟨by rw [HLEN.out]; exact hlt, hlt, HL.out⟩)
   obtain ⟨x, hx⟩ : ∃ x, x = (ordSorted ds)[i]?.getD zD := ⟨_, rfl⟩
   rw [← hx] at e0 e1 e2 e3 e4 e5
   have HX := Aside0.mk (show (ordSorted ds).take (i + 1) = (ordSorted ds).take i ++ [x] from by rw [hx, List.getElem?_eq_getElem HLT.out.1, Option.getD_some, List.take_succ_eq_append_getElem HLT.out.1])
   have hxs : x.f2.f0.size ≤ 1000 := HN.out x (by rw [hx, List.getElem?_eq_getElem HLT.out.1, Option.getD_some]; exact List.getElem_mem _)
   have PZ := Aside0.mk (fun W (hW : Below w.heap.size w W) => size_calls (l0 := l0) (l1 := l1) (A0 := A0) (c0 := c0) (A1 := A1) (c1 := c1) x.f2.f0 x.f2.f1 W (HSB.out.mv hW) HS.out (HH.out.below hW) hxs)
   clear hx hxs
   obtain ⟨AO, cO, rfl⟩ := Kd.R_slice HO3.out
   go_upto_region 5 with fail
   obtain ⟨W5, hW5⟩ : ∃ W5, W5 = wr.alloc (.cells #[.string x.f0, .int .i64 x.f1, .string x.f2.f0, .bool x.f2.f1, .bool x.f3, .int .i64 x.f4] 46) := ⟨_, rfl⟩
   obtain ⟨X, hX⟩ : ∃ X, X = wr.heap.size := ⟨_, rfl⟩
   obtain ⟨f0, f1, f2, f3, f4, f5⟩ := at6_new wr x
   have hb5 : Below wr.heap.size wr W5 := by rw [hW5]; exact below_alloc (Below.refl _ _) _
   rw [← hW5, ← hX] at f2 f3 f4 f5
   rw [← hW5, ← hX]
   clear hW5 hX f0 f1
   have hd : Below W5.heap.size W5 W5.drew := below_drew1 (Below.refl _ _)
   have HO5 := Aside0.mk (Kd.R_below (Kd.R_below HO3.out hb5) hd)
   have BW5 := Aside0.mk (HB3.out.trans ((hb5.trans (hd.mono hb5.size)).mono HB3.out.size))
   have BD5 := Aside0.mk (HB0.out.trans (BW5.out.mono HB0.out.size))
   have p0 := pw_cell_below BW5.out HQ0.out
   have p1 := pw_cell_below BW5.out HQ1.out
   have p2 := pw_cell_below hd f2
   have p3 := pw_cell_below hd f3
   have p4 := pw_cell_below hd f4
   have p5 := pw_cell_below hd f5
   clear hb5 hd f2 f3 f4 f5 e0 e1 e2 e3 e4 e5
   refine start_ (n := 13) (S := fun w' => w'.cell? ⟨B, 0, none⟩ = some (.slice A0 l0.length c0) ∧ w'.cell? ⟨B, 1, none⟩ = some (.slice A1 l1.length c1) ∧ w'.cell? ⟨X, 2, none⟩ = some (.string x.f2.f0) ∧ w'.cell? ⟨X, 3, none⟩ = some (.bool x.f2.f1) ∧ w'.cell? ⟨X, 4, none⟩ = some (.bool x.f3) ∧ w'.cell? ⟨X, 5, none⟩ = some (.int .i64 x.f4)) (ds := [11]) #[false, false, false, false, false, false, false, false, false, false, false, false, false] (by kernel_rfl) rfl rfl ⟨p0, p1, p2, p3, p4, p5⟩ (fun hHeld => ?_)
   refine pu_ 0 (some 15) rfl ?_
   refine pu_ 2 (some 17) rfl ?_
   refine pu_ 5 (some 20) rfl ?_
   refine pu_ 7 (some 22) rfl ?_
   refine tk_ 1 (some 16) rfl hHeld ?_
   refine tk_ 3 (some 18) rfl hHeld ?_
   refine tk_ 6 (some 21) rfl hHeld ?_
   refine tk_ 8 (some 23) rfl hHeld ?_
   refine on_ 4 (some 19) rfl (fun K hK => ?_)
   refine goes_ Tryz.func29 (by kernel_rfl) rfl #[.agg #[.slice A0 l0.length c0, .slice A1 l1.length c1], .agg #[.string x.f2.f0, .bool x.f2.f1]] (by rfl) rfl rfl (by simp only [List.map_toArray, List.map_cons, List.map_nil]; rfl) ?_
   with_reducible refine (PZ.out _ BD5.out).mono ?_
   rintro e W6 ⟨rfl, hb6⟩
   refine ⟨_, rfl, ?_⟩
   have HO6 := Aside0.mk (Kd.R_below HO5.out hb6)
   have BW6 := Aside0.mk (BW5.out.trans (hb6.mono BW5.out.size))
   refine hK.out _ _ ⟨pw_cell_below hb6 hHeld.1, pw_cell_below hb6 hHeld.2.1, pw_cell_below hb6 hHeld.2.2.1, pw_cell_below hb6 hHeld.2.2.2.1, pw_cell_below hb6 hHeld.2.2.2.2.1, pw_cell_below hb6 hHeld.2.2.2.2.2⟩ (fun hHeld => ?_)
   clear hK K
   refine no_ 19 ?_
   refine pu_ 9 (some 24) rfl ?_
   refine on_ 10 (some 25) rfl (fun K hK => ?_)
   refine va_ ?_
   refine hK.out _ _ ⟨pw_cell_below (below_alloc (Below.refl _ _) _) hHeld.1, pw_cell_below (below_alloc (Below.refl _ _) _) hHeld.2.1, pw_cell_below (below_alloc (Below.refl _ _) _) hHeld.2.2.1, pw_cell_below (below_alloc (Below.refl _ _) _) hHeld.2.2.2.1, pw_cell_below (below_alloc (Below.refl _ _) _) hHeld.2.2.2.2.1, pw_cell_below (below_alloc (Below.refl _ _) _) hHeld.2.2.2.2.2⟩ (fun hHeld => ?_)
   clear hK K
   refine no_ 25 ?_
   refine la_ 11 (some 26) rfl (fun K hK => ?_)
   refine fld_append_step (w0 := W2) (by rfl) (.tmp 15) (.tmp 25) rfl (by first | rfl | (go_simp; done) | (go_simp; rfl)) (by first | rfl | (go_simp; done) | (go_simp; rfl)) HO6.out BW6.out (fldF l0 l1 x) (by rw [List.length_map, List.length_take]; have := HLT.out; omega) ?_
   intro v7 W7 hR7 hb7
   obtain ⟨A7, n7, c7, rfl⟩ : ∃ A n c, v7 = Value.slice A n c := by obtain ⟨A, c, e⟩ := Kd.R_slice hR7; exact ⟨A, _, c, e⟩
   have HR7 := Aside0.mk hR7
   have HB7 := Aside0.mk hb7
   clear hR7 hb7 hb6
   refine hK.out _ _ ?_
   clear hK K
   refine no_ 26 ?_
   refine pu_ 12 (some 5) rfl ?_
   refine done_ (by kernel_rfl) ?_
   clear p0 p1 p2 p3 p4 p5
   go_wp2_with fail
   go_roundg (ds.length - (i + 1))
   case measure => omega
   case rel =>
    have hL10 := HL.out
    refine ⟨i + 1, ?_, by omega, by omega, HB7, ⟨?_⟩⟩
    ·have e : wrap64 ((i : Int) + 1) = ((i + 1 : Nat) : Int) := by unfold wrap64; omega
     rw [e]
    ·rw [HX.out, List.map_append]
     exact HR7.out
  ·obtain rfl : i = ds.length := by omega
   go_wp2_with fail
   go_ret
   have e := HO3.out
   rw [List.take_of_length_le (by rw [HLEN.out]; exact Nat.le_refl _)] at e
   exact ⟨_, rfl, Kd.R_lower e HB0.out.size, HB0.out.trans (HB3.out.mono HB0.out.size)⟩
end
end Go.Proofs.YtjeipkfeihahdaaGreatDoor
