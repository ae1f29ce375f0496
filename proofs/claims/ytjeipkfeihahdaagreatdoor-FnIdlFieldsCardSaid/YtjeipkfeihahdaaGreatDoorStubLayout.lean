/- The program's layout, walked. -/
import Derived.Test.YtjeipkfeihahdaaGreatDoorStubChs
import Derived.Test.YtjeipkfeihahdaaGreatDoorPx0
namespace Go.Proofs.YtjeipkfeihahdaaGreatDoor
set_option linter.unusedVariables false
set_option linter.unusedSimpArgs false
open Go.RowKit Go.Maps Go.Proofs.YtjeipkfeihahdaaGreatDoor.Lem Go.Proofs.YtjeipkfeihahdaaGreatDoor.P Go.Proofs.YtjeipkfeihahdaaGreatDoorW.PrintWords Go.Proofs.YtjeipkfeihahdaaGreatDoorW.PrintLast Go.Proofs.YtjeipkfeihahdaaGreatDoorW.PrintMore
theorem R34_typed {w w1 : World} {base : Nat} {v : Value} {xs : List S113} (h : Kd.R k113 113 w base (fun _ => True) v xs) (hK : ∀ k cs, k < w.heap.size → w.heap[k]? = some (Obj.cells cs 113 (0, 0)) → w1.heap[k]? = w.heap[k]?) : Kd.R k113 113 w1 base (fun _ => True) v xs := by
 refine Kd.R_mono (Kd.R_move (Kd.R_bound h) (fun k hk => ?_)) (fun _ _ => trivial)
 obtain ⟨_, _, hlt, q, hq, cells, hc⟩ := hk
 have e : q = 113 := by
  rcases List.mem_cons.mp hq with h | h
  ·exact h
  ·simp [k113, Kd.iso, Kd.int, Kd.scalar] at h
 subst e
 exact hK k cells hlt hc
theorem IsP.grown34 {w0 w w1 : World} {pb mb n : Nat} {p : PS} (H : IsP w0 w pb mb n p) {row : Option Nat} (hg : w.grownBy w1 row) (hr : ∀ k, row = some k → ∃ cs, w.heap[k]? = some (Obj.cells cs 113 (0, 0))) (hb : Below w0.heap.size w0 w1) : IsP w0 w1 pb mb n p := by
 obtain ⟨rv, hP, hR⟩ := H.out
 have h1 : some pb ≠ row := fun e => by
  obtain ⟨cs, hc⟩ := hr pb e.symm
  rw [hP.row] at hc
  injection hc with hc
  injection hc with _ e2 _
  exact absurd e2 (by decide)
 have h2 : some mb ≠ row := fun e => by
  obtain ⟨cs, hc⟩ := hr mb e.symm
  obtain ⟨D, ⟨es, clock, hb2, _⟩, hm⟩ := hP.map
  rw [hb2] at hc
  cases hc
 refine ⟨rv, hP.grown2 hg h1 h2 hb, Kd.R_mono (Kd.R_move (Kd.R_bound hR) (fun k hk => ?_)) (fun _ hk => hk.1)⟩
 obtain ⟨_, _, hlt, q, hq, cells, hc⟩ := hk
 refine hg.block k hlt (fun e => ?_)
 obtain ⟨cs, hc2⟩ := hr k e.symm
 rw [hc2] at hc
 injection hc with hc
 injection hc with _ e2 _
 rcases List.mem_cons.mp hq with h | h
 ·rw [h] at e2; exact absurd e2 (by decide)
 ·simp [kRoom, Kd.pair, Kd.int, Kd.scalar] at h
def fieldP (f : S38) : Int × Bool := (f.f0, f.f1)
def layS (l : List S38) : List Int × PS := layP PS.new (l.map fieldP)
theorem layS_snoc (l : List S38) (f : S38) : layS (l ++ [f]) = ((layS l).1 ++ [(putP (layS l).2 f.f0 f.f1).1], (putP (layS l).2 f.f0 f.f1).2) := by
 unfold layS
 rw [List.map_append]
 exact layP_snoc (fieldP f) _ _
theorem layS_inv (l : List S38) : Inv (2 * l.length) l.length (layS l).2 := by
 have := Inv.lay (l.map fieldP) Inv.new
 rw [List.length_map, Nat.zero_add, Nat.zero_add] at this
 exact this
def FieldsGood (l : List S38) : Prop := l.length ≤ 12 ∧ ∀ f ∈ l, 1 ≤ f.f0 ∧ f.f0 ≤ 6
instance (l : List S38) : Decidable (FieldsGood l) := inferInstanceAs (Decidable (_ ∧ _))
set_option maxHeartbeats 4000000 in
set_option maxRecDepth 100000 in
theorem planned_calls (A0 : Option Addr) (c0 : Nat) (l0 : List S38) (w : World) (hSB : SBw w) (hr0 : Kd.C k38 w A0 l0.length l0) (hc0 : l0.length ≤ c0) (hG : FieldsGood l0) :
  Calls Tryz.prog 35 #[.slice A0 l0.length c0] w fun e w' => ∃ pb mb n v, e = .returned (.tuple #[.pointer (some ⟨pb, 0, none⟩), v]) ∧ IsP w w' pb mb n (layS l0).2 ∧ Kd.R k113 113 w' w.heap.size (fun _ => True) v ((layS l0).1.map S113.mk) := by
 have hu := Tryz.underlying38
 have hu2 := Tryz.underlying83
 have HR0 := Aside0.mk hr0
 have HC0 := Aside0.mk hc0
 have HS := Aside0.mk hSB
 have HG := Aside0.mk hG
 have hinfo : (Tryz.prog.info? 113).map (fun i => (i.zero, i.size, i.bytes)) = some (some (.agg #[(.int .i64 0)]), 1, 8) := by kernel_rfl
 have I0 : IsP w ((w.alloc (.map #[] 0)).alloc (.cells #[.int .i64 0, .int .i64 0, .map (some w.heap.size), .int .i64 (-1), .slice none 0 0, .int .i64 (-1), .int .i64 0] 83)) (w.heap.size + 1) w.heap.size 0 PS.new := by
  refine ⟨.slice none 0 0, ⟨?_, ⟨by omega, Nat.le_refl _, by omega⟩, ⟨.map [], ?_, fun s hs => ?_⟩, ?_⟩, Kd.R_nil _ _ _ _ _⟩
  ·have := heap_alloc_new (w.alloc (.map #[] 0)) (.cells #[.int .i64 0, .int .i64 0, .map (some w.heap.size), .int .i64 (-1), .slice none 0 0, .int .i64 (-1), .int .i64 0] 83)
   rw [show (w.alloc (.map #[] 0)).heap.size = w.heap.size + 1 by simp] at this
   exact this
  ·exact (World.ownsMap_made w Tryz.prog 3 (plainElem Tryz.prog 3)).alloc _
  ·simp only [PS.new]
   rfl
  ·exact below_alloc (below_alloc (Below.refl _ _) _) _
 have HI0 := Aside0.mk I0
 clear hr0 hc0 hSB hG I0
 go_enter Tryz.func35, Tryz.ntmps35
 have hmm := fun W => run_makeMap (P := Tryz.prog) 80 W
 go_wp2
 clear hmm
 go_loopg [5, 13] l0.length (fun gg s5 s13 wr => ∃ kk : Nat, s13 = .int .i64 kk ∧ Aside0 (kk ≤ l0.length ∧ l0.length - kk ≤ gg) ∧ Aside0 (IsP w wr (w.heap.size + 1) w.heap.size (20 * kk) (layS (l0.take kk)).2) ∧ Aside0 (Kd.R k113 113 wr w.heap.size (fun _ => True) s5 ((layS (l0.take kk)).1.map S113.mk)))
 case atStart => exact ⟨0, rfl, ⟨Nat.zero_le _, by omega⟩, HI0, ⟨Kd.R_nil _ _ _ _ _⟩⟩
 case round =>
  clear HI0
  obtain ⟨kk, rfl, HK, HI, HO⟩ := hrel
  have hlen := HG.out.1
  by_cases hlt : kk < l0.length
  ·have hltz : (kk : Int) < (l0.length : Int) := by omega
   obtain ⟨ad, e0, hx0, hx1, hx2⟩ := at_T38 HR0.out (kk : Int) (by omega) hltz
   cases e0
   rw [Int.toNat_natCast] at hx0 hx1 hx2
   replace hx0 := (HI.out.low.cell (World.block_lt_of_cell? w _ hx0)).trans hx0
   replace hx1 := (HI.out.low.cell (World.block_lt_of_cell? w _ hx1)).trans hx1
   replace hx2 := (HI.out.low.cell (World.block_lt_of_cell? w _ hx2)).trans hx2
   have hrd : rd_T38 l0 (kk : Int) = l0[kk] := by
    unfold rd_T38
    rw [Int.toNat_natCast, List.getD_eq_getElem?_getD, List.getElem?_eq_getElem hlt, Option.getD_some]
   have htk : l0.take (kk + 1) = l0.take kk ++ [rd_T38 l0 (kk : Int)] := by rw [hrd, List.take_succ_eq_append_getElem hlt]
   have hs := HG.out.2 (rd_T38 l0 (kk : Int)) (by rw [hrd]; exact List.getElem_mem hlt)
   have HT := Aside0.mk (show layS (l0.take (kk + 1)) = _ by rw [htk, layS_snoc])
   have hi : Inv (2 * kk) kk (layS (l0.take kk)).2 := by
    have := layS_inv (l0.take kk)
    rw [List.length_take, Nat.min_eq_left (by omega)] at this
    exact this
   have HLL := Aside0.mk (show (layS (l0.take kk)).1.length = kk by unfold layS; rw [layP_length, List.length_map, List.length_take, Nat.min_eq_left (by omega)])
   clear htk hrd
   generalize rd_T38 l0 (kk : Int) = s at *
   generalize layS (l0.take kk) = LS at *
   obtain ⟨xs, q⟩ := LS
   have hI2 := HI.out.below_ (show Below wr.heap.size wr (wr.alloc (.cells #[.int .i64 s.f0, .bool s.f1, .int .i64 s.f2] 38)) from below_alloc (Below.refl _ _) _)
   have hc := put_calls w _ (w.heap.size + 1) w.heap.size (20 * kk) (2 * kk) kk q s.f0 s.f1 s.f2 hs (by omega) hi (by omega) HS.out hI2
   have HO2 := Aside0.mk (Kd.R_alloc HO.out (.cells #[.int .i64 s.f0, .bool s.f1, .int .i64 s.f2] 38))
   have HKK := HK.out
   clear hs hi hI2 HO HI
   generalize putP q s.f0 s.f1 = R at *
   obtain ⟨r, q2⟩ := R
   go_wp2_with (first
    | (go_at_call 59; refine hc.mono ?_; rintro e w1 ⟨rfl, hI1, hK1⟩; have HO3 := Aside0.mk (R34_typed HO2.out (fun k cs hk e => (hK1.same k cs _ _ e (by decide) (by decide)).trans e.symm)); have A1 := Aside0.mk hI1; clear hI1 hK1 HO2)
    | ((with_reducible refine gate_builtin (b := .append) (xs := #[.tmp 17, .tmp 21]) rfl ?_); at_builtin; refine Kd.R_append k113 (w0 := w) w.heap.size rfl (.tmp 17) (.tmp 21) 32 113 (.agg #[(.int .i64 0)]) 8 rfl Tryz.underlying32 hinfo rfl (by decide) (by omega) u5 (xs.map S113.mk) (S113.mk r) [.int .i64 r] (fun _ => True) (fun _ => False) rfl rfl (k113_mkM _ _ _ (S113.mk r)) (fun _ hk => hk.elim) (fun _ _ => trivial) HO3.out A1.out.low A1.out.low.size (by rw [List.length_map, HLL.out]; omega) ?_; intro v2 w2 ho hb hg hat; have A2 := Aside0.mk (A1.out.grown34 hg (fun k hk => (by obtain ⟨h0, inner, hown, hr⟩ := HO3.out; exact own_typed hown k hk)) hb); have A3 := Aside0.mk ho; clear hb hg hat ho)
    | go_in)
   go_roundg (l0.length - (kk + 1))
   case measure => omega
   case rel => 
    refine ⟨kk + 1, by first | rfl | (rw [w64 (by omega) (by omega)]; rfl), ⟨by omega, by omega⟩, ⟨?_⟩, ⟨?_⟩⟩
    ·rw [HT.out]; exact A2.out.mono (by omega)
    ·rw [HT.out]
     have := A3.out
     rw [show xs.map S113.mk ++ [S113.mk r] = (xs ++ [r]).map S113.mk by rw [List.map_append]; rfl] at this
     exact this
  ·have hltz : ¬ (kk : Int) < (l0.length : Int) := by omega
   have e : l0.take kk = l0 := List.take_of_length_le (by omega)
   rw [e] at HI HO
   clear e
   go_wp2
   go_ret2
   exact ⟨_, _, _, _, rfl, HI.out, HO.out⟩
def impl_layout.f (l0 : List S38) : Option (Int × Int × List S113 × Int) := if FieldsGood l0 then some ((layS l0).2.words, (layS l0).2.ptrs, (layS l0).1.map S113.mk, (layS l0).2.tag) else none
set_option maxHeartbeats 4000000 in
set_option maxRecDepth 100000 in
theorem impl_layout.calls (A0 : Option Addr) (c0 : Nat) (l0 : List S38) (r1 r2 : Int) (r3 : List S113) (r4 : Int) (w : World) (hSB : SBw w) (hr0 : Kd.C k38 w A0 l0.length l0) (hc0 : l0.length ≤ c0) (h : impl_layout.f l0 = some (r1, r2, r3, r4)) :
  Calls Tryz.prog 18 #[.slice A0 l0.length c0] w fun e w' => ∃ v2, e = .returned (.agg #[.int .i64 r1, .int .i64 r2, v2, .int .i64 r4]) ∧ Kd.R k113 113 w' w.heap.size (fun _ => True) v2 r3 ∧ Below w.heap.size w w' := by
 unfold impl_layout.f at h
 by_cases hG : FieldsGood l0
 ·rw [if_pos hG] at h
  have hr := Option.some.inj h
  injection hr with e1 e
  injection e with e2 e
  injection e with e3 e4
  subst e1 e2 e3 e4
  have hB : Below w.heap.size w (w.alloc (.cells #[.int .i64 0, .int .i64 0, .slice none 0 0, .int .i64 0] 34)) := below_alloc (Below.refl _ _) _
  have hc := planned_calls A0 c0 l0 (w.alloc (.cells #[.int .i64 0, .int .i64 0, .slice none 0 0, .int .i64 0] 34)) (hSB.mv hB) (Kd.C_below hr0 hB) hc0 hG
  have b0 := heap_alloc_new w (.cells #[.int .i64 0, .int .i64 0, .slice none 0 0, .int .i64 0] 34)
  have hsz : (w.alloc (.cells #[.int .i64 0, .int .i64 0, .slice none 0 0, .int .i64 0] 34)).heap.size = w.heap.size + 1 := by simp
  have HB := Aside0.mk hB
  have B0 := Aside0.mk b0
  have HZ := Aside0.mk hsz
  clear h hG hr0 hc0 hSB hB b0 hsz
  generalize layS l0 = LS at *
  obtain ⟨xs, q⟩ := LS
  go_enter Tryz.func18, Tryz.ntmps18
  go_wp2_with (first
   | (go_at_call 35; refine hc.mono ?_; rintro e w1 ⟨pb, mb, n, v, rfl, hI, hO⟩)
   | go_in)
  have A1 := Aside0.mk (below_drew hI.low)
  have A2 := Aside0.mk (Kd.R_below hO (below_drew (Below.refl _ _)))
  obtain ⟨rv, hv⟩ := hI.open_
  have d0 : w1.drew.cell? ⟨pb, 0, none⟩ = some (.int .i64 q.words) := (blk_cell hv.plan.row 0).trans rfl
  have d1 : w1.drew.cell? ⟨pb, 1, none⟩ = some (.int .i64 q.ptrs) := (blk_cell hv.plan.row 1).trans rfl
  have d3 : w1.drew.cell? ⟨pb, 3, none⟩ = some (.int .i64 q.tag) := (blk_cell hv.plan.row 3).trans rfl
  have hb1 : w1.drew.heap[w.heap.size]? = some (.cells #[.int .i64 0, .int .i64 0, .slice none 0 0, .int .i64 0] 34 (0, 0)) := (hI.low.block w.heap.size (by rw [HZ.out]; omega)).trans (by simpa using B0.out)
  have k0 : w1.drew.cell? ⟨w.heap.size, 0, none⟩ = some (.int .i64 0) := (blk_cell hb1 0).trans rfl
  have k1 : w1.drew.cell? ⟨w.heap.size, 1, none⟩ = some (.int .i64 0) := (blk_cell hb1 1).trans rfl
  have k2 : w1.drew.cell? ⟨w.heap.size, 2, none⟩ = some (.slice none 0 0) := (blk_cell hb1 2).trans rfl
  have k3 : w1.drew.cell? ⟨w.heap.size, 3, none⟩ = some (.int .i64 0) := (blk_cell hb1 3).trans rfl
  have g0 : w1.drew.frozen? ⟨w.heap.size, 0, none⟩ = false := blk_frozen hb1 0
  have g1 : w1.drew.frozen? ⟨w.heap.size, 1, none⟩ = false := blk_frozen hb1 1
  have g2 : w1.drew.frozen? ⟨w.heap.size, 2, none⟩ = false := blk_frozen hb1 2
  have g3 : w1.drew.frozen? ⟨w.heap.size, 3, none⟩ = false := blk_frozen hb1 3
  have A3 := Aside0.mk hb1
  obtain ⟨Av, cv, ev⟩ := Kd.R_slice hO
  rw [List.length_map] at ev
  subst ev
  clear hv hI hO hb1
  refine start_ (n := 15) (S := fun w' => w'.cell? ⟨pb, 0, none⟩ = some (.int .i64 q.words) ∧ w'.cell? ⟨pb, 1, none⟩ = some (.int .i64 q.ptrs) ∧ w'.cell? ⟨pb, 3, none⟩ = some (.int .i64 q.tag)) (ds := [14]) #[false, false, false, false, false, false, false, false, false, false, false, false, false, false, false] (by kernel_rfl) rfl rfl ⟨d0, d1, d3⟩ (fun hHeld => ?_)
  generalize w1.drew = wd at d0 d1 d3 k0 k1 k2 k3 g0 g1 g2 g3 A1 A2 A3 hHeld ⊢
  refine pure_ (i := 0) (N := some 10) (v := ?_) (a' := ?_) #[true, false, false, false, false, false, false, false, false, false, false, false, false, false, false] rfl rfl (by kernel_rfl) (fun _ _ _ h => h) (Or.inl ⟨by rfl, ?_⟩) ?_ ?_
  rotate_left
  ·intro w'
   go_simp
   with_reducible rfl
  rotate_left
  ·simp only [Act.put, List.setIfInBounds_toArray, List.set_cons_zero, List.set_cons_succ, i64_w, i32_w]
   rfl
  refine pure_ (i := 1) (N := some 11) (v := ?_) (a' := ?_) #[true, true, false, false, false, false, false, false, false, false, false, false, false, false, false] rfl rfl (by kernel_rfl) (fun _ _ _ h => h) (Or.inl ⟨by rfl, ?_⟩) ?_ ?_
  rotate_left
  ·intro w'
   go_simp
   with_reducible rfl
  rotate_left
  ·simp only [Act.put, List.setIfInBounds_toArray, List.set_cons_zero, List.set_cons_succ, i64_w, i32_w]
   rfl
  refine pure_ (i := 2) (N := some 12) (v := ?_) (a' := ?_) #[true, true, true, false, false, false, false, false, false, false, false, false, false, false, false] rfl rfl (by kernel_rfl) (fun _ _ _ h => h) (Or.inl ⟨by rfl, ?_⟩) ?_ ?_
  rotate_left
  ·intro w'
   go_simp
   with_reducible rfl
  rotate_left
  ·simp only [Act.put, List.setIfInBounds_toArray, List.set_cons_zero, List.set_cons_succ, i64_w, i32_w]
   rfl
  refine pure_ (i := 4) (N := some 14) (v := ?_) (a' := ?_) #[true, true, true, false, true, false, false, false, false, false, false, false, false, false, false] rfl rfl (by kernel_rfl) (fun _ _ _ h => h) (Or.inl ⟨by rfl, ?_⟩) ?_ ?_
  rotate_left
  ·intro w'
   go_simp
   with_reducible rfl
  rotate_left
  ·simp only [Act.put, List.setIfInBounds_toArray, List.set_cons_zero, List.set_cons_succ, i64_w, i32_w]
   rfl
  refine pure_ (i := 5) (N := some 15) (v := ?_) (a' := ?_) #[true, true, true, false, true, true, false, false, false, false, false, false, false, false, false] rfl rfl (by kernel_rfl) (fun _ _ _ h => h) (Or.inl ⟨by rfl, ?_⟩) ?_ ?_
  rotate_left
  ·intro w'
   go_simp
   with_reducible rfl
  rotate_left
  ·simp only [Act.put, List.setIfInBounds_toArray, List.set_cons_zero, List.set_cons_succ, i64_w, i32_w]
   rfl
  refine pure_ (i := 6) (N := some 16) (v := ?_) (a' := ?_) #[true, true, true, false, true, true, true, false, false, false, false, false, false, false, false] rfl rfl (by kernel_rfl) (fun _ _ _ h => h) (Or.inl ⟨by rfl, ?_⟩) ?_ ?_
  rotate_left
  ·intro w'
   go_simp
   with_reducible rfl
  rotate_left
  ·simp only [Act.put, List.setIfInBounds_toArray, List.set_cons_zero, List.set_cons_succ, i64_w, i32_w]
   rfl
  refine pure_ (i := 8) (N := some 18) (v := ?_) (a' := ?_) #[true, true, true, false, true, true, true, false, true, false, false, false, false, false, false] rfl rfl (by kernel_rfl) (fun _ _ _ h => h) (Or.inl ⟨by rfl, ?_⟩) ?_ ?_
  rotate_left
  ·intro w'
   go_simp
   with_reducible rfl
  rotate_left
  ·simp only [Act.put, List.setIfInBounds_toArray, List.set_cons_zero, List.set_cons_succ, i64_w, i32_w]
   rfl
  refine pure_ (i := 9) (N := some 19) (v := ?_) (a' := ?_) #[true, true, true, false, true, true, true, false, true, true, false, false, false, false, false] rfl rfl (by kernel_rfl) (fun _ _ _ h => h) (Or.inl ⟨by rfl, ?_⟩) ?_ ?_
  rotate_left
  ·intro w'
   go_simp
   with_reducible rfl
  rotate_left
  ·simp only [Act.put, List.setIfInBounds_toArray, List.set_cons_zero, List.set_cons_succ, i64_w, i32_w]
   rfl
  refine pure_ (i := 10) (N := some 20) (v := ?_) (a' := ?_) #[true, true, true, false, true, true, true, false, true, true, true, false, false, false, false] rfl rfl (by kernel_rfl) (fun _ _ _ h => h) (Or.inl ⟨by rfl, ?_⟩) ?_ ?_
  rotate_left
  ·intro w'
   go_simp
   with_reducible rfl
  rotate_left
  ·simp only [Act.put, List.setIfInBounds_toArray, List.set_cons_zero, List.set_cons_succ, i64_w, i32_w]
   rfl
  refine pure_ (i := 11) (N := some 21) (v := ?_) (a' := ?_) #[true, true, true, false, true, true, true, false, true, true, true, true, false, false, false] rfl rfl (by kernel_rfl) (fun _ _ _ h => h) (Or.inl ⟨by rfl, ?_⟩) ?_ ?_
  rotate_left
  ·intro w'
   go_simp
   with_reducible rfl
  rotate_left
  ·simp only [Act.put, List.setIfInBounds_toArray, List.set_cons_zero, List.set_cons_succ, i64_w, i32_w]
   rfl
  refine take_ (i := 3) (N := some 13) (v := ?_) (a' := ?_) #[true, true, true, true, true, true, true, false, true, true, true, true, false, false, false] rfl rfl (by kernel_rfl) (fun _ _ _ h => h) (Or.inl ⟨by rfl, ?_⟩) hHeld ?_ ?_
  rotate_left
  ·rintro w' ⟨s0, s1, s2⟩
   go_simp
   with_reducible rfl
  rotate_left
  ·simp only [Act.put, List.setIfInBounds_toArray, List.set_cons_zero, List.set_cons_succ, i64_w, i32_w]
   rfl
  refine take_ (i := 7) (N := some 17) (v := ?_) (a' := ?_) #[true, true, true, true, true, true, true, true, true, true, true, true, false, false, false] rfl rfl (by kernel_rfl) (fun _ _ _ h => h) (Or.inl ⟨by rfl, ?_⟩) hHeld ?_ ?_
  rotate_left
  ·rintro w' ⟨s0, s1, s2⟩
   go_simp
   with_reducible rfl
  rotate_left
  ·simp only [Act.put, List.setIfInBounds_toArray, List.set_cons_zero, List.set_cons_succ, i64_w, i32_w]
   rfl
  refine take_ (i := 12) (N := some 22) (v := ?_) (a' := ?_) #[true, true, true, true, true, true, true, true, true, true, true, true, true, false, false] rfl rfl (by kernel_rfl) (fun _ _ _ h => h) (Or.inl ⟨by rfl, ?_⟩) hHeld ?_ ?_
  rotate_left
  ·rintro w' ⟨s0, s1, s2⟩
   go_simp
   with_reducible rfl
  rotate_left
  ·simp only [Act.put, List.setIfInBounds_toArray, List.set_cons_zero, List.set_cons_succ, i64_w, i32_w]
   rfl
  refine pure_ (i := 13) (N := some 23) (v := ?_) (a' := ?_) #[true, true, true, true, true, true, true, true, true, true, true, true, true, true, false] rfl rfl (by kernel_rfl) (fun _ _ _ h => h) (Or.inl ⟨by rfl, ?_⟩) ?_ ?_
  rotate_left
  ·intro w'
   go_simp
   with_reducible rfl
  rotate_left
  ·simp only [Act.put, List.setIfInBounds_toArray, List.set_cons_zero, List.set_cons_succ, i64_w, i32_w]
   rfl
  refine last_ (i := 14) (N := none) #[true, true, true, true, true, true, true, true, true, true, true, true, true, true, true] rfl rfl (by kernel_rfl) (by decide) (fun K hK => ?_)
  refine skip_ (w1 := ?_) (by rfl) rfl ?_ ?_
  rotate_left
  ·go_simp
   rfl
  refine hK.out _ _ ?_
  clear hK K
  refine done_ (by kernel_rfl) ?_
  go_wp2
  have q0 := blk_put (cs' := #[.int .i64 q.words, .int .i64 0, .slice none 0 0, .int .i64 0]) A3.out 0 (.int .i64 q.words) rfl
  have q1 := blk_put (cs' := #[.int .i64 q.words, .int .i64 q.ptrs, .slice none 0 0, .int .i64 0]) q0 1 (.int .i64 q.ptrs) rfl
  have q2 := blk_put (cs' := #[.int .i64 q.words, .int .i64 q.ptrs, .slice Av xs.length cv, .int .i64 0]) q1 2 (.slice Av xs.length cv) rfl
  have q3 := blk_put (cs' := #[.int .i64 q.words, .int .i64 q.ptrs, .slice Av xs.length cv, .int .i64 q.tag]) q2 3 (.int .i64 q.tag) rfl
  refine bodyPost_ret (results_cell_row rfl _ _ w.heap.size 34 #[.int .i64 q.words, .int .i64 q.ptrs, .slice Av xs.length cv, .int .i64 q.tag] (0, 0) _ rfl q3 Tryz.underlying34 rfl (by kernel_rfl)) rfl ?_
  have hE : ∀ x, x ∈ 113 :: k113.E → x ≠ 34 := fun x hx => by
   rcases List.mem_cons.mp hx with h | h
   ·rw [h]; decide
   ·simp [k113, Kd.iso, Kd.int, Kd.scalar] at h
  have r := Kd.R_set (Kd.R_set (Kd.R_set (Kd.R_set A2.out A3.out hE 0 _) q0 hE 1 _) q1 hE 2 _) q2 hE 3 (.int .i64 q.tag)
  have hBw : Below w.heap.size w wd := HB.out.trans (A1.out.mono (by rw [HZ.out]; omega))
  exact ⟨_, rfl, Kd.R_lower r (by rw [HZ.out]; omega), below_set (below_set (below_set (below_set hBw (Nat.le_refl _)) (Nat.le_refl _)) (Nat.le_refl _)) (Nat.le_refl _)⟩
 ·rw [if_neg hG] at h
  cases h
end Go.Proofs.YtjeipkfeihahdaaGreatDoor
