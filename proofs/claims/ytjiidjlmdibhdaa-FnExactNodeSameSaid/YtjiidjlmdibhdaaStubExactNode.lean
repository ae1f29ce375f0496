/- The program's comparison of nodes answers what the reference's does: the law, walked. -/
import Derived.Test.YtjiidjlmdibhdaaStubSame
import Derived.Test.YtjiidjlmdibhdaaStubNodeSame
import Derived.Test.YtjiidjlmdibhdaaStubCopy
import Derived.Test.YtjiidjlmdibhdaaStubSize
import Derived.Test.YtjiidjlmdibhdaaLemSame
import Derived.Test.YtjiidjlmdibhdaaPx2
namespace Go.Proofs.Ytjiidjlmdibhdaa
set_option linter.unusedVariables false
set_option linter.unusedSimpArgs false
open Go.RowKit Go.Proofs.Ytjiidjlmdibhdaa.P Go.Proofs.Ytjiidjlmdibhdaa.Lem Go.Proofs.YtjiidjlmdibhdaaW.PrintWords Go.Proofs.YtjiidjlmdibhdaaW.PrintLast Go.Proofs.YtjiidjlmdibhdaaW.PrintMore
/-- A node's rows, read. -/
structure HasN (w : World) (x : S29) (A2 : Option Addr) (c2 : Nat) (A5 : Option Addr) (c5 : Nat) : Prop where
  r2 : Kd.C k29 w A2 x.f2.length x.f2
  l2 : x.f2.length ≤ c2
  r5 : Kd.C k29 w A5 x.f5.length x.f5
  l5 : x.f5.length ≤ c5
theorem HasN.mv {w w1 : World} {x : S29} {A2 : Option Addr} {c2 : Nat} {A5 : Option Addr} {c5 : Nat} (h : HasN w x A2 c2 A5 c5) (hb : Below w.heap.size w w1) : HasN w1 x A2 c2 A5 c5 := ⟨Kd.C_below h.r2 hb, h.l2, Kd.C_below h.r5 hb, h.l5⟩
structure HasM (w : World) (x : S24) (A2 : Option Addr) (c2 : Nat) (A5 : Option Addr) (c5 : Nat) : Prop where
  r2 : Kd.C k24 w A2 x.f2.length x.f2
  l2 : x.f2.length ≤ c2
  r5 : Kd.C k24 w A5 x.f5.length x.f5
  l5 : x.f5.length ≤ c5
theorem HasM.mv {w w1 : World} {x : S24} {A2 : Option Addr} {c2 : Nat} {A5 : Option Addr} {c5 : Nat} (h : HasM w x A2 c2 A5 c5) (hb : Below w.heap.size w w1) : HasM w1 x A2 c2 A5 c5 := ⟨Kd.C_below h.r2 hb, h.l2, Kd.C_below h.r5 hb, h.l5⟩
abbrev aggW (x : S24) (A2 : Option Addr) (c2 : Nat) (A5 : Option Addr) (c5 : Nat) : Value := .agg #[.int .i64 x.f0, .string x.f1, .slice A2 x.f2.length c2, .int .i64 x.f3, .int .i64 x.f4, .slice A5 x.f5.length c5]
theorem to_calls (x : S24) (hok : okN x = true) (A2 : Option Addr) (c2 : Nat) (A5 : Option Addr) (c5 : Nat) (w : World) (h : HasM w x A2 c2 A5 c5) :
    Calls Try.prog 8 #[aggW x A2 c2 A5 c5] w fun e w' => ∃ B2 d2 B5 d5, e = .returned (aggV (cvN x) B2 d2 B5 d5) ∧ HasN w' (cvN x) B2 d2 B5 d5 ∧ Below w.heap.size w w' := by
  have hf : laws_toNode.f x.f0 x.f1 x.f2 x.f3 x.f4 x.f5 = some ((cvN x).f0, (cvN x).f1, (cvN x).f2, (cvN x).f3, (cvN x).f4, (cvN x).f5) := by
    obtain ⟨k, d, p, s, c, q⟩ := x
    simp only [okN, Bool.and_eq_true] at hok
    unfold laws_toNode.f laws_toNodeS.f
    simp only [hok.1, hok.2, if_true, Option.bind_some, cvN]
  refine (toC_all x A2 c2 A5 c5 _ _ _ _ _ _ w h.r2 h.l2 h.r5 h.l5 hf).mono ?_
  rintro e w' ⟨v2, v5, rfl, h2, h5, hb⟩
  obtain ⟨B2, d2, rfl⟩ := Kd.R_slice h2
  obtain ⟨B5, d5, rfl⟩ := Kd.R_slice h5
  have q2 := Kd.R_reads' h2
  have q5 := Kd.R_reads' h5
  exact ⟨B2, d2, B5, d5, rfl, ⟨q2.2.2, q2.2.1, q5.2.2, q5.2.1⟩, hb⟩
theorem specSame_calls (k : Nat) (x y : S29) (hk : F4 k x y = some (sameV x y)) (A2 : Option Addr) (c2 : Nat) (A5 : Option Addr) (c5 : Nat) (B2 : Option Addr) (d2 : Nat) (B5 : Option Addr) (d5 : Nat) (w : World) (hx : HasN w x A2 c2 A5 c5) (hy : HasN w y B2 d2 B5 d5) :
    Calls Try.prog 7 #[aggV x A2 c2 A5 c5, aggV y B2 d2 B5 d5] w fun e w' => e = .returned (.bool (sameV x y)) ∧ Below w.heap.size w w' :=
  spec_NodeSame.calls k x.f0 x.f1 A2 c2 x.f2 x.f3 x.f4 A5 c5 x.f5 y.f0 y.f1 B2 d2 y.f2 y.f3 y.f4 B5 d5 y.f5 _ w hx.r2 hx.l2 hx.r5 hx.l5 hy.r2 hy.l2 hy.r5 hy.l5 (by
    unfold spec_NodeSame.f
    rw [show spec_l4Same.f k x.f0 x.f1 x.f2 x.f3 x.f4 x.f5 y.f0 y.f1 y.f2 y.f3 y.f4 y.f5 = some (sameV x y) from hk]
    rfl)
theorem eqN_calls (x y : S29) (A2 : Option Addr) (c2 : Nat) (A5 : Option Addr) (c5 : Nat) (B2 : Option Addr) (d2 : Nat) (B5 : Option Addr) (d5 : Nat) (w : World) (hx : HasN w x A2 c2 A5 c5) (hy : HasN w y B2 d2 B5 d5) :
    Calls Try.prog 10 #[aggV x A2 c2 A5 c5, aggV y B2 d2 B5 d5] w fun e w' => e = .returned (.bool (sameV x y)) ∧ Below w.heap.size w w' :=
  eqNode_all x y A2 A5 B2 B5 c2 c5 d2 d5 w hx.r2 hx.l2 hx.r5 hx.l5 hy.r2 hy.l2 hy.r5 hy.l5
theorem implSame_calls (x y : S29) (A2 : Option Addr) (c2 : Nat) (A5 : Option Addr) (c5 : Nat) (B2 : Option Addr) (d2 : Nat) (B5 : Option Addr) (d5 : Nat) (w : World) (hx : HasN w x A2 c2 A5 c5) (hy : HasN w y B2 d2 B5 d5) :
    Calls Try.prog 9 #[aggV x A2 c2 A5 c5, aggV y B2 d2 B5 d5] w fun e w' => e = .returned (.bool (sameV x y)) ∧ Below w.heap.size w w' :=
  nodeSame_all x y A2 A5 B2 B5 c2 c5 d2 d5 w hx.r2 hx.l2 hx.r5 hx.l5 hy.r2 hy.l2 hy.r5 hy.l5
theorem sz_calls (x : S24) (a : Int) (A2 : Option Addr) (c2 : Nat) (A5 : Option Addr) (c5 : Nat) (w : World) (h : HasM w x A2 c2 A5 c5) :
    Calls Try.prog 6 #[aggW x A2 c2 A5 c5, .int .i64 a] w fun e w' => e = .returned (.int .i64 (szN x a)) ∧ Below w.heap.size w w' :=
  szC_all x A2 c2 A5 c5 a _ w h.r2 h.l2 h.r5 h.l5 (szNode_f x a)
/-- Six cells of a block. -/
theorem six {W : World} {b : Nat} {v0 v1 v2 v3 v4 v5 : Value} {t : TypeId} (h : W.heap[b]? = some (.cells #[v0, v1, v2, v3, v4, v5] t (0, 0))) : W.cell? ⟨b, 0, none⟩ = some v0 ∧ W.cell? ⟨b, 1, none⟩ = some v1 ∧ W.cell? ⟨b, 2, none⟩ = some v2 ∧ W.cell? ⟨b, 3, none⟩ = some v3 ∧ W.cell? ⟨b, 4, none⟩ = some v4 ∧ W.cell? ⟨b, 5, none⟩ = some v5 :=
  ⟨(blk_cell h 0).trans rfl, (blk_cell h 1).trans rfl, (blk_cell h 2).trans rfl, (blk_cell h 3).trans rfl, (blk_cell h 4).trans rfl, (blk_cell h 5).trans rfl⟩
set_option maxHeartbeats 8000000 in
set_option maxRecDepth 100000 in
theorem exactNodeSame_calls (x y : S24) (hfx : fineN x) (hfy : fineN y) (A2 : Option Addr) (c2 : Nat) (A5 : Option Addr) (c5 : Nat) (B2 : Option Addr) (d2 : Nat) (B5 : Option Addr) (d5 : Nat) (w : World) (hx : HasM w x A2 c2 A5 c5) (hy : HasM w y B2 d2 B5 d5) (k : Nat) (hk : F4 k (cvN x) (cvN y) = some (sameV (cvN x) (cvN y))) :
    Calls Try.prog 3 #[aggW x A2 c2 A5 c5, aggW y B2 d2 B5 d5] w fun e w' => e = .returned (.bool true) ∧ Below w.heap.size w w' := by
  obtain ⟨W2, hW2⟩ : ∃ W2, W2 = (w.alloc (.cells #[.int .i64 x.f0, .string x.f1, .slice A2 x.f2.length c2, .int .i64 x.f3, .int .i64 x.f4, .slice A5 x.f5.length c5] 24)).alloc (.cells #[.int .i64 y.f0, .string y.f1, .slice B2 y.f2.length d2, .int .i64 y.f3, .int .i64 y.f4, .slice B5 y.f5.length d5] 24) := ⟨_, rfl⟩
  have HB0 := Aside0.mk (show Below w.heap.size w W2 from by rw [hW2]; exact below_alloc (below_alloc (Below.refl _ _) _) _)
  have b1 : W2.heap[w.heap.size]? = some (.cells #[.int .i64 x.f0, .string x.f1, .slice A2 x.f2.length c2, .int .i64 x.f3, .int .i64 x.f4, .slice A5 x.f5.length c5] 24 (0, 0)) := by
    rw [hW2, Below.heap_alloc _ _ _ (by simp)]
    simpa using heap_alloc_new w _
  have b2 : W2.heap[w.heap.size + 1]? = some (.cells #[.int .i64 y.f0, .string y.f1, .slice B2 y.f2.length d2, .int .i64 y.f3, .int .i64 y.f4, .slice B5 y.f5.length d5] 24 (0, 0)) := by
    rw [hW2]
    have := heap_alloc_new (w.alloc (.cells #[.int .i64 x.f0, .string x.f1, .slice A2 x.f2.length c2, .int .i64 x.f3, .int .i64 x.f4, .slice A5 x.f5.length c5] 24)) (.cells #[.int .i64 y.f0, .string y.f1, .slice B2 y.f2.length d2, .int .i64 y.f3, .int .i64 y.f4, .slice B5 y.f5.length d5] 24)
    rw [show (w.alloc (.cells #[.int .i64 x.f0, .string x.f1, .slice A2 x.f2.length c2, .int .i64 x.f3, .int .i64 x.f4, .slice A5 x.f5.length c5] 24)).heap.size = w.heap.size + 1 by simp] at this
    exact this
  have P := Aside0.mk (fun (W : World) (hb : Below W2.heap.size W2 W) => And.intro (six ((hb.block _ (Array.getElem?_eq_some_iff.mp b1).1).trans b1)) (six ((hb.block _ (Array.getElem?_eq_some_iff.mp b2).1).trans b2)))
  have HX := Aside0.mk (hx.mv HB0.out)
  have HY := Aside0.mk (hy.mv HB0.out)
  have HK := Aside0.mk hk
  have HFX := Aside0.mk hfx
  have HFY := Aside0.mk hfy
  have hs1 := sz_calls x 1048576 A2 c2 A5 c5 W2 HX.out
  have hsz1 := szN_ok x 1048576 (by omega) hfx
  clear b1 b2 hx hy hk hfx hfy
  obtain ⟨⟨x0, x1, x2, x3, x4, x5⟩, y0, y1, y2, y3, y4, y5⟩ := P.out W2 (Below.refl _ _)
  have HW2 := Aside0.mk hW2
  rw [hW2] at x0 x1 x2 x3 x4 x5 hs1
  generalize hz1 : szN x 1048576 = z1 at *
  clear hW2 y0 y1 y2 y3 y4 y5
  have HSZ1 := Aside0.mk hsz1
  clear hsz1 hz1
  go_enter Try.func3, Try.ntmps3
  go_upto_region 3 with (first
    | (go_at_call 6; refine hs1.mono ?_; rintro e w3 ⟨rfl, hb3⟩)
    | go_in)
  rw [← HW2.out] at hb3
  have HB3 := Aside0.mk hb3
  clear hb3 x0 x1 x2 x3 x4 x5
  by_cases hz : z1 < 0
  · have t0 := decide_eq_true hz
    clear hz
    go_wp2
    go_ret
    exact ⟨rfl, below_step HB0.out HB3.out⟩
  have t0 := decide_eq_false hz
  have h1 : 0 ≤ z1 ∧ z1 ≤ 1048576 ∧ okN x = true := by
    rcases HSZ1.out with e | h
    · omega
    · exact h
  have HOX := Aside0.mk h1.2.2
  have hs2 := sz_calls y z1 B2 d2 B5 d5 w3 (HY.out.mv HB3.out)
  have hsz2 := szN_ok y z1 ⟨h1.1, h1.2.1⟩ HFY.out
  obtain ⟨_, y0, y1, y2, y3, y4, y5⟩ := P.out w3 HB3.out
  generalize hz2 : szN y z1 = z2 at *
  have HSZ2 := Aside0.mk hsz2
  clear hz h1 hsz2 hz2
  go_upto_region 6 with (first
    | (go_at_call 6; refine hs2.mono ?_; rintro e w4 ⟨rfl, hb4⟩)
    | go_in)
  have HB4 := Aside0.mk (HB3.out.trans (hb4.mono HB3.out.size))
  clear hb4 y0 y1 y2 y3 y4 y5 t0
  by_cases hz : z2 < 0
  · have t0 := decide_eq_true hz
    clear hz
    go_wp2
    go_ret
    exact ⟨rfl, below_step HB0.out HB4.out⟩
  have t0 := decide_eq_false hz
  have HOY := Aside0.mk (show okN y = true from by
    rcases HSZ2.out with e | h
    · omega
    · exact h.2.2)
  clear hz
  have HB0d := below_drew HB4.out
  go_upto_region 8 with fail
  refine start_ (n := 6) (S := fun w' => w'.cell? ⟨w.heap.size, 0, none⟩ = some (.int .i64 x.f0) ∧ w'.cell? ⟨w.heap.size, 1, none⟩ = some (.string x.f1) ∧ w'.cell? ⟨w.heap.size, 2, none⟩ = some (.slice A2 x.f2.length c2) ∧ w'.cell? ⟨w.heap.size, 3, none⟩ = some (.int .i64 x.f3) ∧ w'.cell? ⟨w.heap.size, 4, none⟩ = some (.int .i64 x.f4) ∧ w'.cell? ⟨w.heap.size, 5, none⟩ = some (.slice A5 x.f5.length c5) ∧ w'.cell? ⟨w.heap.size + 1, 0, none⟩ = some (.int .i64 y.f0) ∧ w'.cell? ⟨w.heap.size + 1, 1, none⟩ = some (.string y.f1) ∧ w'.cell? ⟨w.heap.size + 1, 2, none⟩ = some (.slice B2 y.f2.length d2) ∧ w'.cell? ⟨w.heap.size + 1, 3, none⟩ = some (.int .i64 y.f3) ∧ w'.cell? ⟨w.heap.size + 1, 4, none⟩ = some (.int .i64 y.f4) ∧ w'.cell? ⟨w.heap.size + 1, 5, none⟩ = some (.slice B5 y.f5.length d5)) (ds := []) #[false, false, false, false, false, false] (by kernel_rfl) rfl rfl ⟨(P.out _ HB0d).1.1, (P.out _ HB0d).1.2.1, (P.out _ HB0d).1.2.2.1, (P.out _ HB0d).1.2.2.2.1, (P.out _ HB0d).1.2.2.2.2.1, (P.out _ HB0d).1.2.2.2.2.2, (P.out _ HB0d).2.1, (P.out _ HB0d).2.2.1, (P.out _ HB0d).2.2.2.1, (P.out _ HB0d).2.2.2.2.1, (P.out _ HB0d).2.2.2.2.2.1, (P.out _ HB0d).2.2.2.2.2.2⟩ (fun hHeld => ?_)
  refine take_ (i := 0) (N := some 20) (v := ?_) (a' := ?_) #[true, false, false, false, false, false] rfl rfl (by kernel_rfl) (fun _ _ _ h => h) (Or.inl ⟨by rfl, ?_⟩) hHeld ?_ ?_
  rotate_left
  · rintro w' ⟨s0, s1, s2, s3, s4, s5, s6, s7, s8, s9, s10, s11⟩
    go_simp
    with_reducible rfl
  rotate_left
  · simp only [Act.put, List.setIfInBounds_toArray, List.set_cons_zero, List.set_cons_succ, i64_w, i32_w]
    rfl
  refine take_ (i := 2) (N := some 22) (v := ?_) (a' := ?_) #[true, false, true, false, false, false] rfl rfl (by kernel_rfl) (fun _ _ _ h => h) (Or.inl ⟨by rfl, ?_⟩) hHeld ?_ ?_
  rotate_left
  · rintro w' ⟨s0, s1, s2, s3, s4, s5, s6, s7, s8, s9, s10, s11⟩
    go_simp
    with_reducible rfl
  rotate_left
  · simp only [Act.put, List.setIfInBounds_toArray, List.set_cons_zero, List.set_cons_succ, i64_w, i32_w]
    rfl
  refine one_ (i := 1) (N := some 21) #[true, true, true, false, false, false] rfl rfl (by kernel_rfl) (by decide) (fun K hK => ?_)
  refine goes_ Try.func8 (by kernel_rfl) rfl #[aggW x A2 c2 A5 c5] (by rfl) rfl rfl (by simp only [List.map_toArray, List.map_cons, List.map_nil]; rfl) ?_
  with_reducible refine (to_calls x HOX.out A2 c2 A5 c5 _ (HX.out.mv HB0d)).mono ?_
  rintro e w5 ⟨Ax2, cx2, Ax5, cx5, rfl, hN1, hb1⟩
  refine ⟨_, rfl, ?_⟩
  have HB1 := Aside0.mk (HB0d.trans (hb1.mono HB0d.size))
  have HN1 := Aside0.mk hN1
  clear hb1 hN1
  refine hK.out _ _ ⟨(P.out _ HB1.out).1.1, (P.out _ HB1.out).1.2.1, (P.out _ HB1.out).1.2.2.1, (P.out _ HB1.out).1.2.2.2.1, (P.out _ HB1.out).1.2.2.2.2.1, (P.out _ HB1.out).1.2.2.2.2.2, (P.out _ HB1.out).2.1, (P.out _ HB1.out).2.2.1, (P.out _ HB1.out).2.2.2.1, (P.out _ HB1.out).2.2.2.2.1, (P.out _ HB1.out).2.2.2.2.2.1, (P.out _ HB1.out).2.2.2.2.2.2⟩ (fun hHeld => ?_)
  clear hK K
  refine norm_ (a' := ?_) ?_ ?_
  rotate_left
  · show Act.put _ (some 21) _ = _
    simp only [Act.put, List.setIfInBounds_toArray, List.set_cons_zero, List.set_cons_succ, i64_w, i32_w]
    rfl
  refine one_ (i := 3) (N := some 23) #[true, true, true, true, false, false] rfl rfl (by kernel_rfl) (by decide) (fun K hK => ?_)
  refine goes_ Try.func8 (by kernel_rfl) rfl #[aggW y B2 d2 B5 d5] (by rfl) rfl rfl (by simp only [List.map_toArray, List.map_cons, List.map_nil]; rfl) ?_
  with_reducible refine (to_calls y HOY.out B2 d2 B5 d5 _ (HY.out.mv HB1.out)).mono ?_
  rintro e w6 ⟨Ay2, cy2, Ay5, cy5, rfl, hN2, hb2⟩
  refine ⟨_, rfl, ?_⟩
  have HB2 := Aside0.mk (HB1.out.trans (hb2.mono HB1.out.size))
  have HN1' := Aside0.mk (HN1.out.mv hb2)
  have HN2 := Aside0.mk hN2
  clear hb2 hN2
  refine hK.out _ _ ⟨(P.out _ HB2.out).1.1, (P.out _ HB2.out).1.2.1, (P.out _ HB2.out).1.2.2.1, (P.out _ HB2.out).1.2.2.2.1, (P.out _ HB2.out).1.2.2.2.2.1, (P.out _ HB2.out).1.2.2.2.2.2, (P.out _ HB2.out).2.1, (P.out _ HB2.out).2.2.1, (P.out _ HB2.out).2.2.2.1, (P.out _ HB2.out).2.2.2.2.1, (P.out _ HB2.out).2.2.2.2.2.1, (P.out _ HB2.out).2.2.2.2.2.2⟩ (fun hHeld => ?_)
  clear hK K
  refine norm_ (a' := ?_) ?_ ?_
  rotate_left
  · show Act.put _ (some 23) _ = _
    simp only [Act.put, List.setIfInBounds_toArray, List.set_cons_zero, List.set_cons_succ, i64_w, i32_w]
    rfl
  refine one_ (i := 4) (N := some 24) #[true, true, true, true, true, false] rfl rfl (by kernel_rfl) (by decide) (fun K hK => ?_)
  refine goes_ Try.func7 (by kernel_rfl) rfl #[aggV (cvN x) Ax2 cx2 Ax5 cx5, aggV (cvN y) Ay2 cy2 Ay5 cy5] (by rfl) rfl rfl (by simp only [List.map_toArray, List.map_cons, List.map_nil]; rfl) ?_
  with_reducible refine (specSame_calls k _ _ HK.out Ax2 cx2 Ax5 cx5 Ay2 cy2 Ay5 cy5 _ HN1'.out HN2.out).mono ?_
  rintro e w7 ⟨rfl, hb3⟩
  refine ⟨_, rfl, ?_⟩
  have HB3 := Aside0.mk (HB2.out.trans (hb3.mono HB2.out.size))
  clear hb3
  refine hK.out _ _ ⟨(P.out _ HB3.out).1.1, (P.out _ HB3.out).1.2.1, (P.out _ HB3.out).1.2.2.1, (P.out _ HB3.out).1.2.2.2.1, (P.out _ HB3.out).1.2.2.2.2.1, (P.out _ HB3.out).1.2.2.2.2.2, (P.out _ HB3.out).2.1, (P.out _ HB3.out).2.2.1, (P.out _ HB3.out).2.2.2.1, (P.out _ HB3.out).2.2.2.2.1, (P.out _ HB3.out).2.2.2.2.2.1, (P.out _ HB3.out).2.2.2.2.2.2⟩ (fun hHeld => ?_)
  clear hK K
  refine norm_ (a' := ?_) ?_ ?_
  rotate_left
  · show Act.put _ (some 24) _ = _
    simp only [Act.put, List.setIfInBounds_toArray, List.set_cons_zero, List.set_cons_succ, i64_w, i32_w]
    rfl
  refine pure_ (i := 5) (N := some 6) (v := ?_) (a' := ?_) #[true, true, true, true, true, true] rfl rfl (by kernel_rfl) (fun _ _ _ h => h) (Or.inl ⟨by rfl, ?_⟩) ?_ ?_
  rotate_left
  · intro w'
    go_simp
    with_reducible rfl
  rotate_left
  · simp only [Act.put, List.setIfInBounds_toArray, List.set_cons_zero, List.set_cons_succ, i64_w, i32_w]
    rfl
  refine done_ (by kernel_rfl) ?_
  have hcp := to_calls x HOX.out A2 c2 A5 c5 w7 (HX.out.mv HB3.out)
  obtain ⟨⟨x0, x1, x2, x3, x4, x5⟩, _⟩ := P.out w7 HB3.out
  clear HB0d t0 HB1 HB2 HN1 HN1' HN2 HB4 HSZ1 HSZ2
  go_upto_region 10 with (first
    | (go_at_call 8; refine hcp.mono ?_; rintro e w8 ⟨C2, e2, C5, e5, rfl, hN, hb⟩; have HN8 := Aside0.mk hN; have HB8 := Aside0.mk (HB3.out.trans (hb.mono HB3.out.size)); clear hN hb hcp x0 x1 x2 x3 x4 x5)
    | go_in)
  obtain ⟨W9, hW9⟩ : ∃ W9, W9 = w8.alloc (.cells #[.int .i64 (cvN x).f0, .string (cvN x).f1, .slice C2 (cvN x).f2.length e2, .int .i64 (cvN x).f3, .int .i64 (cvN x).f4, .slice C5 (cvN x).f5.length e5] 29) := ⟨_, rfl⟩
  have HCX := Aside0.mk (show HasN W9 (cvN x) C2 e2 C5 e5 from by rw [hW9]; exact HN8.out.mv (below_alloc (Below.refl _ _) _))
  have HB9 := Aside0.mk (show Below W2.heap.size W2 W9 from by rw [hW9]; exact below_alloc HB8.out _)
  have b9 : W9.heap[w8.heap.size]? = some (.cells #[.int .i64 (cvN x).f0, .string (cvN x).f1, .slice C2 (cvN x).f2.length e2, .int .i64 (cvN x).f3, .int .i64 (cvN x).f4, .slice C5 (cvN x).f5.length e5] 29 (0, 0)) := by rw [hW9]; simpa using heap_alloc_new w8 _
  have Q := Aside0.mk (fun (W : World) (hb : Below W9.heap.size W9 W) => six ((hb.block _ (Array.getElem?_eq_some_iff.mp b9).1).trans b9))
  rw [← hW9]
  clear hW9 b9 HN8
  have hcp := to_calls y HOY.out B2 d2 B5 d5 W9 (HY.out.mv HB9.out)
  obtain ⟨_, y0, y1, y2, y3, y4, y5⟩ := P.out W9 HB9.out
  go_upto_region 11 with (first
    | (go_at_call 8; refine hcp.mono ?_; rintro e w10 ⟨D2, f2, D5, f5, rfl, hN, hb⟩; have HN10 := Aside0.mk hN; have HQ10 := Aside0.mk hb; have HB10 := Aside0.mk (HB9.out.trans (hb.mono HB9.out.size)); clear hN hb hcp y0 y1 y2 y3 y4 y5)
    | go_in)
  obtain ⟨W11, hW11⟩ : ∃ W11, W11 = w10.alloc (.cells #[.int .i64 (cvN y).f0, .string (cvN y).f1, .slice D2 (cvN y).f2.length f2, .int .i64 (cvN y).f3, .int .i64 (cvN y).f4, .slice D5 (cvN y).f5.length f5] 29) := ⟨_, rfl⟩
  have HCY := Aside0.mk (show HasN W11 (cvN y) D2 f2 D5 f5 from by rw [hW11]; exact HN10.out.mv (below_alloc (Below.refl _ _) _))
  have HB11 := Aside0.mk (show Below W2.heap.size W2 W11 from by rw [hW11]; exact below_alloc HB10.out _)
  have HQ11 := Aside0.mk (show Below W9.heap.size W9 W11 from by rw [hW11]; exact below_alloc HQ10.out _)
  have b11 : W11.heap[w10.heap.size]? = some (.cells #[.int .i64 (cvN y).f0, .string (cvN y).f1, .slice D2 (cvN y).f2.length f2, .int .i64 (cvN y).f3, .int .i64 (cvN y).f4, .slice D5 (cvN y).f5.length f5] 29 (0, 0)) := by rw [hW11]; simpa using heap_alloc_new w10 _
  have R := Aside0.mk (fun (W : World) (hb : Below W11.heap.size W11 W) => six ((hb.block _ (Array.getElem?_eq_some_iff.mp b11).1).trans b11))
  rw [← hW11]
  clear hW11 b11 HN10
  have hcp := implSame_calls (cvN x) (cvN y) C2 e2 C5 e5 D2 f2 D5 f5 W11 (HCX.out.mv HQ11.out) HCY.out
  obtain ⟨x0, x1, x2, x3, x4, x5⟩ := Q.out W11 HQ11.out
  obtain ⟨y0, y1, y2, y3, y4, y5⟩ := R.out W11 (Below.refl _ _)
  go_upto_region 14 with (first
    | (go_at_call 9; refine hcp.mono ?_; rintro e w12 ⟨rfl, hb⟩; have HR12 := Aside0.mk hb; clear hb hcp x0 x1 x2 x3 x4 x5 y0 y1 y2 y3 y4 y5)
    | go_in)
  have HRd := below_drew HR12.out
  have HQ0d := HQ11.out.trans (HRd.mono HQ11.out.size)
  have HP0d := HB11.out.trans (HRd.mono HB11.out.size)
  refine start_ (n := 5) (S := fun w' => w'.cell? ⟨w8.heap.size, 0, none⟩ = some (.int .i64 (cvN x).f0) ∧ w'.cell? ⟨w8.heap.size, 1, none⟩ = some (.string (cvN x).f1) ∧ w'.cell? ⟨w8.heap.size, 2, none⟩ = some (.slice C2 (cvN x).f2.length e2) ∧ w'.cell? ⟨w8.heap.size, 3, none⟩ = some (.int .i64 (cvN x).f3) ∧ w'.cell? ⟨w8.heap.size, 4, none⟩ = some (.int .i64 (cvN x).f4) ∧ w'.cell? ⟨w8.heap.size, 5, none⟩ = some (.slice C5 (cvN x).f5.length e5) ∧ w'.cell? ⟨w.heap.size, 0, none⟩ = some (.int .i64 x.f0) ∧ w'.cell? ⟨w.heap.size, 1, none⟩ = some (.string x.f1) ∧ w'.cell? ⟨w.heap.size, 2, none⟩ = some (.slice A2 x.f2.length c2) ∧ w'.cell? ⟨w.heap.size, 3, none⟩ = some (.int .i64 x.f3) ∧ w'.cell? ⟨w.heap.size, 4, none⟩ = some (.int .i64 x.f4) ∧ w'.cell? ⟨w.heap.size, 5, none⟩ = some (.slice A5 x.f5.length c5)) (ds := []) #[false, false, false, false, false] (by kernel_rfl) rfl rfl ⟨(Q.out _ HQ0d).1, (Q.out _ HQ0d).2.1, (Q.out _ HQ0d).2.2.1, (Q.out _ HQ0d).2.2.2.1, (Q.out _ HQ0d).2.2.2.2.1, (Q.out _ HQ0d).2.2.2.2.2, (P.out _ HP0d).1.1, (P.out _ HP0d).1.2.1, (P.out _ HP0d).1.2.2.1, (P.out _ HP0d).1.2.2.2.1, (P.out _ HP0d).1.2.2.2.2.1, (P.out _ HP0d).1.2.2.2.2.2⟩ (fun hHeld => ?_)
  refine take_ (i := 0) (N := some 35) (v := ?_) (a' := ?_) #[true, false, false, false, false] rfl rfl (by kernel_rfl) (fun _ _ _ h => h) (Or.inl ⟨by rfl, ?_⟩) hHeld ?_ ?_
  rotate_left
  · rintro w' ⟨s0, s1, s2, s3, s4, s5, s6, s7, s8, s9, s10, s11⟩
    go_simp
    with_reducible rfl
  rotate_left
  · simp only [Act.put, List.setIfInBounds_toArray, List.set_cons_zero, List.set_cons_succ, i64_w, i32_w]
    rfl
  refine take_ (i := 1) (N := some 36) (v := ?_) (a' := ?_) #[true, true, false, false, false] rfl rfl (by kernel_rfl) (fun _ _ _ h => h) (Or.inl ⟨by rfl, ?_⟩) hHeld ?_ ?_
  rotate_left
  · rintro w' ⟨s0, s1, s2, s3, s4, s5, s6, s7, s8, s9, s10, s11⟩
    go_simp
    with_reducible rfl
  rotate_left
  · simp only [Act.put, List.setIfInBounds_toArray, List.set_cons_zero, List.set_cons_succ, i64_w, i32_w]
    rfl
  refine one_ (i := 2) (N := some 37) #[true, true, true, false, false] rfl rfl (by kernel_rfl) (by decide) (fun K hK => ?_)
  refine goes_ Try.func8 (by kernel_rfl) rfl #[aggW x A2 c2 A5 c5] (by rfl) rfl rfl (by simp only [List.map_toArray, List.map_cons, List.map_nil]; rfl) ?_
  with_reducible refine (to_calls x HOX.out A2 c2 A5 c5 _ (HX.out.mv HP0d)).mono ?_
  rintro e w13 ⟨Ax2, cx2, Ax5, cx5, rfl, hN1, hb1⟩
  refine ⟨_, rfl, ?_⟩
  have HQ1 := Aside0.mk (HQ0d.trans (hb1.mono HQ0d.size))
  have HP1 := Aside0.mk (HP0d.trans (hb1.mono HP0d.size))
  have HRR1 := Aside0.mk (HRd.trans (hb1.mono HRd.size))
  have HN1 := Aside0.mk hN1
  have HC1 := Aside0.mk (HCX.out.mv HQ1.out)
  clear hb1 hN1
  refine hK.out _ _ ⟨(Q.out _ HQ1.out).1, (Q.out _ HQ1.out).2.1, (Q.out _ HQ1.out).2.2.1, (Q.out _ HQ1.out).2.2.2.1, (Q.out _ HQ1.out).2.2.2.2.1, (Q.out _ HQ1.out).2.2.2.2.2, (P.out _ HP1.out).1.1, (P.out _ HP1.out).1.2.1, (P.out _ HP1.out).1.2.2.1, (P.out _ HP1.out).1.2.2.2.1, (P.out _ HP1.out).1.2.2.2.2.1, (P.out _ HP1.out).1.2.2.2.2.2⟩ (fun hHeld => ?_)
  clear hK K
  refine norm_ (a' := ?_) ?_ ?_
  rotate_left
  · show Act.put _ (some 37) _ = _
    simp only [Act.put, List.setIfInBounds_toArray, List.set_cons_zero, List.set_cons_succ, i64_w, i32_w]
    rfl
  refine one_ (i := 3) (N := some 38) #[true, true, true, true, false] rfl rfl (by kernel_rfl) (by decide) (fun K hK => ?_)
  refine goes_ Try.func10 (by kernel_rfl) rfl #[aggV (cvN x) C2 e2 C5 e5, aggV (cvN x) Ax2 cx2 Ax5 cx5] (by rfl) rfl rfl (by simp only [List.map_toArray, List.map_cons, List.map_nil]; rfl) ?_
  with_reducible refine (eqN_calls _ _ C2 e2 C5 e5 Ax2 cx2 Ax5 cx5 _ HC1.out HN1.out).mono ?_
  rintro e w14 ⟨rfl, hb3⟩
  refine ⟨_, rfl, ?_⟩
  have HQ2 := Aside0.mk (HQ1.out.trans (hb3.mono HQ1.out.size))
  have HP2 := Aside0.mk (HP1.out.trans (hb3.mono HP1.out.size))
  have HRR2 := Aside0.mk (HRR1.out.trans (hb3.mono HRR1.out.size))
  clear hb3
  refine hK.out _ _ ⟨(Q.out _ HQ2.out).1, (Q.out _ HQ2.out).2.1, (Q.out _ HQ2.out).2.2.1, (Q.out _ HQ2.out).2.2.2.1, (Q.out _ HQ2.out).2.2.2.2.1, (Q.out _ HQ2.out).2.2.2.2.2, (P.out _ HP2.out).1.1, (P.out _ HP2.out).1.2.1, (P.out _ HP2.out).1.2.2.1, (P.out _ HP2.out).1.2.2.2.1, (P.out _ HP2.out).1.2.2.2.2.1, (P.out _ HP2.out).1.2.2.2.2.2⟩ (fun hHeld => ?_)
  clear hK K
  refine norm_ (a' := ?_) ?_ ?_
  rotate_left
  · show Act.put _ (some 38) _ = _
    simp only [Act.put, List.setIfInBounds_toArray, List.set_cons_zero, List.set_cons_succ, i64_w, i32_w]
    rfl
  refine pure_ (i := 4) (N := some 39) (v := ?_) (a' := ?_) #[true, true, true, true, true] rfl rfl (by kernel_rfl) (fun _ _ _ h => h) (Or.inl ⟨by rfl, ?_⟩) ?_ ?_
  rotate_left
  · intro w'
    go_simp
    with_reducible rfl
  rotate_left
  · simp only [Act.put, List.setIfInBounds_toArray, List.set_cons_zero, List.set_cons_succ, i64_w, i32_w]
    rfl
  refine done_ (by kernel_rfl) ?_
  clear HRd HQ0d HP0d
  have HR0d := below_drew HRR2.out
  have HP0e := below_drew HP2.out
  have hss := sameV_refl (cvN x)
  rw [hss]
  clear hss HQ1 HQ2 HP1 HN1 HC1
  go_upto_region 16 with fail
  refine start_ (n := 5) (S := fun w' => w'.cell? ⟨w10.heap.size, 0, none⟩ = some (.int .i64 (cvN y).f0) ∧ w'.cell? ⟨w10.heap.size, 1, none⟩ = some (.string (cvN y).f1) ∧ w'.cell? ⟨w10.heap.size, 2, none⟩ = some (.slice D2 (cvN y).f2.length f2) ∧ w'.cell? ⟨w10.heap.size, 3, none⟩ = some (.int .i64 (cvN y).f3) ∧ w'.cell? ⟨w10.heap.size, 4, none⟩ = some (.int .i64 (cvN y).f4) ∧ w'.cell? ⟨w10.heap.size, 5, none⟩ = some (.slice D5 (cvN y).f5.length f5) ∧ w'.cell? ⟨w.heap.size + 1, 0, none⟩ = some (.int .i64 y.f0) ∧ w'.cell? ⟨w.heap.size + 1, 1, none⟩ = some (.string y.f1) ∧ w'.cell? ⟨w.heap.size + 1, 2, none⟩ = some (.slice B2 y.f2.length d2) ∧ w'.cell? ⟨w.heap.size + 1, 3, none⟩ = some (.int .i64 y.f3) ∧ w'.cell? ⟨w.heap.size + 1, 4, none⟩ = some (.int .i64 y.f4) ∧ w'.cell? ⟨w.heap.size + 1, 5, none⟩ = some (.slice B5 y.f5.length d5)) (ds := []) #[false, false, false, false, false] (by kernel_rfl) rfl rfl ⟨(R.out _ HR0d).1, (R.out _ HR0d).2.1, (R.out _ HR0d).2.2.1, (R.out _ HR0d).2.2.2.1, (R.out _ HR0d).2.2.2.2.1, (R.out _ HR0d).2.2.2.2.2, (P.out _ HP0e).2.1, (P.out _ HP0e).2.2.1, (P.out _ HP0e).2.2.2.1, (P.out _ HP0e).2.2.2.2.1, (P.out _ HP0e).2.2.2.2.2.1, (P.out _ HP0e).2.2.2.2.2.2⟩ (fun hHeld => ?_)
  refine take_ (i := 0) (N := some 40) (v := ?_) (a' := ?_) #[true, false, false, false, false] rfl rfl (by kernel_rfl) (fun _ _ _ h => h) (Or.inl ⟨by rfl, ?_⟩) hHeld ?_ ?_
  rotate_left
  · rintro w' ⟨s0, s1, s2, s3, s4, s5, s6, s7, s8, s9, s10, s11⟩
    go_simp
    with_reducible rfl
  rotate_left
  · simp only [Act.put, List.setIfInBounds_toArray, List.set_cons_zero, List.set_cons_succ, i64_w, i32_w]
    rfl
  refine take_ (i := 1) (N := some 41) (v := ?_) (a' := ?_) #[true, true, false, false, false] rfl rfl (by kernel_rfl) (fun _ _ _ h => h) (Or.inl ⟨by rfl, ?_⟩) hHeld ?_ ?_
  rotate_left
  · rintro w' ⟨s0, s1, s2, s3, s4, s5, s6, s7, s8, s9, s10, s11⟩
    go_simp
    with_reducible rfl
  rotate_left
  · simp only [Act.put, List.setIfInBounds_toArray, List.set_cons_zero, List.set_cons_succ, i64_w, i32_w]
    rfl
  refine one_ (i := 2) (N := some 42) #[true, true, true, false, false] rfl rfl (by kernel_rfl) (by decide) (fun K hK => ?_)
  refine goes_ Try.func8 (by kernel_rfl) rfl #[aggW y B2 d2 B5 d5] (by rfl) rfl rfl (by simp only [List.map_toArray, List.map_cons, List.map_nil]; rfl) ?_
  with_reducible refine (to_calls y HOY.out B2 d2 B5 d5 _ (HY.out.mv HP0e)).mono ?_
  rintro e w15 ⟨Ax2, cx2, Ax5, cx5, rfl, hN1, hb1⟩
  refine ⟨_, rfl, ?_⟩
  have HQ1 := Aside0.mk (HR0d.trans (hb1.mono HR0d.size))
  have HP1 := Aside0.mk (HP0e.trans (hb1.mono HP0e.size))
  have HN1 := Aside0.mk hN1
  have HC1 := Aside0.mk (HCY.out.mv HQ1.out)
  clear hb1 hN1
  refine hK.out _ _ ⟨(R.out _ HQ1.out).1, (R.out _ HQ1.out).2.1, (R.out _ HQ1.out).2.2.1, (R.out _ HQ1.out).2.2.2.1, (R.out _ HQ1.out).2.2.2.2.1, (R.out _ HQ1.out).2.2.2.2.2, (P.out _ HP1.out).2.1, (P.out _ HP1.out).2.2.1, (P.out _ HP1.out).2.2.2.1, (P.out _ HP1.out).2.2.2.2.1, (P.out _ HP1.out).2.2.2.2.2.1, (P.out _ HP1.out).2.2.2.2.2.2⟩ (fun hHeld => ?_)
  clear hK K
  refine norm_ (a' := ?_) ?_ ?_
  rotate_left
  · show Act.put _ (some 42) _ = _
    simp only [Act.put, List.setIfInBounds_toArray, List.set_cons_zero, List.set_cons_succ, i64_w, i32_w]
    rfl
  refine one_ (i := 3) (N := some 43) #[true, true, true, true, false] rfl rfl (by kernel_rfl) (by decide) (fun K hK => ?_)
  refine goes_ Try.func10 (by kernel_rfl) rfl #[aggV (cvN y) D2 f2 D5 f5, aggV (cvN y) Ax2 cx2 Ax5 cx5] (by rfl) rfl rfl (by simp only [List.map_toArray, List.map_cons, List.map_nil]; rfl) ?_
  with_reducible refine (eqN_calls _ _ D2 f2 D5 f5 Ax2 cx2 Ax5 cx5 _ HC1.out HN1.out).mono ?_
  rintro e w16 ⟨rfl, hb3⟩
  refine ⟨_, rfl, ?_⟩
  have HQ2 := Aside0.mk (HQ1.out.trans (hb3.mono HQ1.out.size))
  have HP2 := Aside0.mk (HP1.out.trans (hb3.mono HP1.out.size))
  clear hb3
  refine hK.out _ _ ⟨(R.out _ HQ2.out).1, (R.out _ HQ2.out).2.1, (R.out _ HQ2.out).2.2.1, (R.out _ HQ2.out).2.2.2.1, (R.out _ HQ2.out).2.2.2.2.1, (R.out _ HQ2.out).2.2.2.2.2, (P.out _ HP2.out).2.1, (P.out _ HP2.out).2.2.1, (P.out _ HP2.out).2.2.2.1, (P.out _ HP2.out).2.2.2.2.1, (P.out _ HP2.out).2.2.2.2.2.1, (P.out _ HP2.out).2.2.2.2.2.2⟩ (fun hHeld => ?_)
  clear hK K
  refine norm_ (a' := ?_) ?_ ?_
  rotate_left
  · show Act.put _ (some 43) _ = _
    simp only [Act.put, List.setIfInBounds_toArray, List.set_cons_zero, List.set_cons_succ, i64_w, i32_w]
    rfl
  refine pure_ (i := 4) (N := some 44) (v := ?_) (a' := ?_) #[true, true, true, true, true] rfl rfl (by kernel_rfl) (fun _ _ _ h => h) (Or.inl ⟨by rfl, ?_⟩) ?_ ?_
  rotate_left
  · intro w'
    go_simp
    with_reducible rfl
  rotate_left
  · simp only [Act.put, List.setIfInBounds_toArray, List.set_cons_zero, List.set_cons_succ, i64_w, i32_w]
    rfl
  refine done_ (by kernel_rfl) ?_
  have hss := sameV_refl (cvN y)
  rw [hss]
  clear hss
  go_wp2
  go_ret
  exact ⟨rfl, HB0.out.trans (HP2.out.mono HB0.out.size)⟩
end Go.Proofs.Ytjiidjlmdibhdaa
