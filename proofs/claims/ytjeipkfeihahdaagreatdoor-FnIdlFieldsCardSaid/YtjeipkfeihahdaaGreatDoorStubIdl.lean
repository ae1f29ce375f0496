/- The code of a schema: IdlCheck, walked: what it answers is IC. -/
import Derived.Test.YtjeipkfeihahdaaGreatDoorStubSchm
import Derived.Test.YtjeipkfeihahdaaGreatDoorStubUniq
import Derived.Test.YtjeipkfeihahdaaGreatDoorStubOrd
namespace Go.Proofs.YtjeipkfeihahdaaGreatDoor
set_option linter.unusedVariables false
set_option linter.unusedSimpArgs false
open Go.RowKit Go.Proofs.YtjeipkfeihahdaaGreatDoor.P Go.Proofs.YtjeipkfeihahdaaGreatDoor.Lem Go.Proofs.YtjeipkfeihahdaaGreatDoorW.PrintWords Go.Proofs.YtjeipkfeihahdaaGreatDoorW.PrintLast Go.Proofs.YtjeipkfeihahdaaGreatDoorW.PrintMore
theorem spot_none {W : World} {a : Addr} {v : Value} (h : W.cell? a = some v) : ∃ b o, a = ⟨b, o, none⟩ := by
 obtain ⟨b, o, s⟩ := a
 cases s with
 | none => exact ⟨b, o, rfl⟩
 | some s =>
  unfold World.cell? at h
  split at h <;> simp at h
theorem add_none (b o k : Nat) : (⟨b, o, none⟩ : Addr).add k = ⟨b, o + k, none⟩ := by
 unfold Addr.add
 split
 ·next h => subst h; rfl
 ·rfl
theorem strs_of_C {W : World} {A : Option Addr} {l : List ByteArray} {c : Nat} (h : Kd.C Kd.string W A l.length l) (hl : 0 < l.length) : Strs W.heap.size W (.slice A l.length c) l := by
 obtain ⟨ad, rfl, h0⟩ := str_at h 0 hl
 have hs : ∃ b o, ad = ⟨b, o, none⟩ := by
  obtain ⟨b, o, e⟩ := spot_none h0
  refine ⟨ad.block, ad.off, ?_⟩
  have hspot : (ad.add 0).spot = none := by rw [e]
  have : ad.add 0 = ad := by unfold Addr.add; simp
  rw [this] at hspot
  cases ad; cases hspot; rfl
 obtain ⟨b, o, rfl⟩ := hs
 have hb : b < W.heap.size := World.block_lt_of_cell? W _ h0
 refine ⟨b, o, c, rfl, by rw [add_none] at h0; exact World.block_lt_of_cell? W _ h0, fun j hj => ?_⟩
 obtain ⟨ad, e, hj2⟩ := str_at h j hj
 cases e
 rw [add_none] at hj2
 rw [hj2]
 simp [hj]
theorem decs_of_C {W : World} {A : Option Addr} {l : List SD} {c : Nat} (h : Kd.C k46 W A l.length l) (hl : 0 < l.length) : Decs W.heap.size W (.slice A l.length c) l := by
 obtain ⟨ad, rfl, h0, _⟩ := decl_at h 0 hl
 have hs : ∃ b o, ad = ⟨b, o, none⟩ := by
  obtain ⟨b, o, e⟩ := spot_none h0
  refine ⟨ad.block, ad.off, ?_⟩
  have hspot : (ad.add (0 * 6)).spot = none := by rw [e]
  have : ad.add (0 * 6) = ad := by unfold Addr.add; simp
  rw [this] at hspot
  cases ad; cases hspot; rfl
 obtain ⟨b, o, rfl⟩ := hs
 refine ⟨b, o, c, rfl, by rw [add_none] at h0; exact World.block_lt_of_cell? W _ h0, fun j hj => ?_⟩
 obtain ⟨ad, e, q0, q1, q2, q3, q4, q5⟩ := decl_at h j hj
 cases e
 rw [add_none] at q0 q1 q2 q3 q4 q5
 have hg : l[j]?.getD zD = l[j] := by simp [hj]
 show At6 W b (o + j * 6) (l[j]?.getD zD)
 rw [hg]
 exact ⟨q0, q1, q2, q3, q4, q5⟩
section
variable {A0 A1 : Option Addr} {c0 c1 : Nat} {l0 : List SS} {l1 : List SE}
set_option maxHeartbeats 1000000 in
theorem closureSize (x : SD) (hs : x.f2.f0.size ≤ 1000) (b : Nat) (W : World) (hSB : SBw W) (hS : Small l0 l1) (h : SchAt W A0 c0 l0 A1 c1 l1) (q0 : W.cell? ⟨b, 0, none⟩ = some (.slice A0 l0.length c0)) (q1 : W.cell? ⟨b, 1, none⟩ = some (.slice A1 l1.length c1)) :
  Calls Tryz.prog 45 #[aggD x, .pointer (some ⟨b, 0, none⟩)] W fun e w' => e = .returned (.bool (decide (0 ≤ sizeF l0 l1 x.f2.f0 x.f2.f1))) ∧ Below W.heap.size W w' := by
 have hb1 : Below W.heap.size W (W.alloc (blkD x)) := below_alloc (Below.refl _ _) _
 have hn := size_calls x.f2.f0 x.f2.f1 _ (hSB.mv hb1) hS (h.below hb1) hs
 obtain ⟨f0, f1, f2, f3, f4, f5⟩ := at6_new W x
 have p0 := pw_cell_below hb1 q0
 have p1 := pw_cell_below hb1 q1
 have HB1 := Aside0.mk hb1
 clear hSB h hS hb1 q0 q1
 generalize sizeF l0 l1 x.f2.f0 x.f2.f1 = z at hn ⊢
 go_enter Tryz.func45, Tryz.ntmps45
 go_wp2_with (go_at_call 29; refine hn.mono ?_; clear hn; rintro e W2 ⟨rfl, hb⟩; have HB := Aside0.mk hb; clear hb)
 go_ret
 exact ⟨rfl, HB1.out.trans (HB.out.mono HB1.out.size)⟩
set_option maxHeartbeats 1000000 in
theorem closureMay (x : SD) (hs : x.f2.f0.size ≤ 1000) (hz : 0 ≤ sizeF l0 l1 x.f2.f0 x.f2.f1) (b : Nat) (W : World) (hSB : SBw W) (hS : Small l0 l1) (h : SchAt W A0 c0 l0 A1 c1 l1) (q0 : W.cell? ⟨b, 0, none⟩ = some (.slice A0 l0.length c0)) (q1 : W.cell? ⟨b, 1, none⟩ = some (.slice A1 l1.length c1)) :
  Calls Tryz.prog 46 #[aggD x, .pointer (some ⟨b, 0, none⟩)] W fun e w' => e = .returned (.bool (mayF l0 l1 x.f2.f0 x.f2.f1 x.f4)) ∧ Below W.heap.size W w' := by
 have hb1 : Below W.heap.size W (W.alloc (blkD x)) := below_alloc (Below.refl _ _) _
 have hn := may_calls x.f2.f0 x.f2.f1 x.f4 _ (hSB.mv hb1) hS (h.below hb1) hs hz
 obtain ⟨f0, f1, f2, f3, f4, f5⟩ := at6_new W x
 have p0 := pw_cell_below hb1 q0
 have p1 := pw_cell_below hb1 q1
 have HB1 := Aside0.mk hb1
 clear hSB h hS hb1 q0 q1 hz
 generalize mayF l0 l1 x.f2.f0 x.f2.f1 x.f4 = z at hn ⊢
 go_enter Tryz.func46, Tryz.ntmps46
 go_wp2_with (go_at_call 47; refine hn.mono ?_; clear hn; rintro e W2 ⟨rfl, hb⟩; have HB := Aside0.mk hb; clear hb)
 go_ret
 exact ⟨rfl, HB1.out.trans (HB.out.mono HB1.out.size)⟩
/-- No name stands twice where it may not. -/
def onceF (l0 : List SS) (l1 : List SE) : Bool := (lotsOf l0 l1 ++ [topOf l0 l1]).all (fun l => decide (uniqLen l = l.length))
def ordOne (ds : List SD) : Bool := (List.range ds.length).all (fun i => decide (((ordSorted ds)[i]?.getD zD).f1 = (i : Int)))
def ordF (l0 : List SS) : Bool := l0.all (fun d => ordOne d.f1)
/-- The code of a schema. -/
def IC (l0 : List SS) (l1 : List SE) : Int :=
 if formedF l0 l1 = false then 1 else if onceF l0 l1 = false then 2 else if allD l0 (fun x => decide (0 ≤ sizeF l0 l1 x.f2.f0 x.f2.f1)) = false then 3 else if ordF l0 = false then 4 else if allD l0 (fun x => mayF l0 l1 x.f2.f0 x.f2.f1 x.f4) = false then 5 else 0
theorem formed_lots (h : formedF l0 l1 = true) : (∀ l ∈ lotsOf l0 l1 ++ [topOf l0 l1], 0 < l.length) ∧ ∀ d ∈ l0, 0 < d.f1.length := by
 unfold formedF at h
 simp only [Bool.and_eq_true, decide_eq_true_eq] at h
 obtain ⟨h0, h1, h2, h3, h4, h5⟩ := h
 rw [List.all_eq_true] at h3
 have hl : ∀ l ∈ lotsOf l0 l1, 0 < l.length := fun l hl => by have := h3 l hl; simp at this; omega
 refine ⟨fun l hl2 => ?_, fun d hd => ?_⟩
 ·rcases List.mem_append.1 hl2 with h | h
  ·exact hl l h
  ·rw [List.mem_singleton.1 h]
   simp [topOf]
   omega
 ·have := hl (d.f1.map (·.f0)) (by simp only [lotsOf, List.mem_append, List.mem_map]; exact .inl ⟨d, hd, rfl⟩)
  simpa using this
set_option maxHeartbeats 4000000 in
set_option maxRecDepth 100000 in
theorem idl_calls (w : World) (hSB : SBw w) (hS : Small l0 l1) (h : SchAt w A0 c0 l0 A1 c1 l1) :
  Calls Tryz.prog 26 #[schV A0 c0 l0 A1 c1 l1] w fun e w' => e = .returned (.int .i64 (IC l0 l1)) ∧ Below w.heap.size w w' := by
 obtain ⟨hLB, hLN⟩ := lots_bound l0 l1 hS
 have n0 := hS.n0
 have nd : ∀ d ∈ l0, d.f1.length ≤ 10 := fun d hd => (hS.s0 d hd).2.1
 obtain ⟨r, hr⟩ : ∃ r, r = IC l0 l1 := ⟨_, rfl⟩
 rw [← hr]
 have HR := Aside0.mk hr
 obtain ⟨W1, hW1⟩ : ∃ W1, W1 = w.alloc (.cells #[.slice A0 l0.length c0, .slice A1 l1.length c1] 26) := ⟨_, rfl⟩
 have hb1 : Below w.heap.size w W1 := by rw [hW1]; exact below_alloc (Below.refl _ _) _
 have x0 : W1.cell? ⟨w.heap.size, 0, none⟩ = some (.slice A0 l0.length c0) := by rw [hW1]; simp
 have x1 : W1.cell? ⟨w.heap.size, 1, none⟩ = some (.slice A1 l1.length c1) := by rw [hW1]; simp
 have hSB1 := hSB.mv hb1
 have h1 := h.below hb1
 have PC := Aside0.mk (fun (W : World) (hW : Below W1.heap.size W1 W) => And.intro (pw_cell_below hW x0) (pw_cell_below hW x1))
 have hform := formed_calls W1 hSB1 hS h1
 have PN0 := fun (W : World) (hW : Below W1.heap.size W1 W) => names_calls W hS (h1.below hW)
 obtain ⟨LL, hLL⟩ : ∃ LL, LL = lotsOf l0 l1 ++ [topOf l0 l1] := ⟨_, rfl⟩
 simp only [← hLL] at PN0 hLB hLN
 have PN := Aside0.mk PN0
 have PZ := Aside0.mk (fun (W : World) (hW : Below W1.heap.size W1 W) => every_calls 45 #[.pointer (some ⟨w.heap.size, 0, none⟩)] (enters_of Tryz.func45 (by kernel_rfl) rfl) (fun x => decide (0 ≤ sizeF l0 l1 x.f2.f0 x.f2.f1)) W hS (h1.below hW) (fun W' hW' d hd x hx => by
  have hW1' : Below W1.heap.size W1 W' := hW.trans (hW'.mono hW.size)
  have := closureSize x (by have := ((hS.s0 d hd).2.2 x hx).2.1; omega) w.heap.size W' (hSB1.mv hW1') hS (h1.below hW1') (pw_cell_below hW1' x0) (pw_cell_below hW1' x1)
  simpa using this))
 have PM := Aside0.mk (fun (hz : allD l0 (fun x => decide (0 ≤ sizeF l0 l1 x.f2.f0 x.f2.f1)) = true) (W : World) (hW : Below W1.heap.size W1 W) => every_calls 46 #[.pointer (some ⟨w.heap.size, 0, none⟩)] (enters_of Tryz.func46 (by kernel_rfl) rfl) (fun x => mayF l0 l1 x.f2.f0 x.f2.f1 x.f4) W hS (h1.below hW) (fun W' hW' d hd x hx => by
  have hW1' : Below W1.heap.size W1 W' := hW.trans (hW'.mono hW.size)
  have hzx : 0 ≤ sizeF l0 l1 x.f2.f0 x.f2.f1 := by
   unfold allD at hz
   rw [List.all_eq_true] at hz
   have h2 := hz d hd
   rw [List.all_eq_true] at h2
   simpa using h2 x hx
  have := closureMay x (by have := ((hS.s0 d hd).2.2 x hx).2.1; omega) hzx w.heap.size W' (hSB1.mv hW1') hS (h1.below hW1') (pw_cell_below hW1' x0) (pw_cell_below hW1' x1)
  simpa using this))
 have PS := Aside0.mk (fun (W : World) (hW : Below W1.heap.size W1 W) => struct_at (Kd.C_below h1.h0 hW))
 have HLB := Aside0.mk hLB
 have ND := Aside0.mk nd
 have HLL := Aside0.mk hLL
 have HW1 := Aside0.mk hW1
 have HB1 := Aside0.mk hb1
 clear hSB hS h hLB nd hr hSB1 h1 PN0 hLL hW1 hb1
 go_enter Tryz.func26, Tryz.ntmps26
 go_upto_region 1 with fail
 rw [← HW1.out]
 cases hF : formedF l0 l1
 case false =>
  rw [hF] at hform
  have hr1 : r = 1 := by rw [HR.out]; unfold IC; rw [if_pos hF]
  subst hr1
  clear hF
  go_wp2_with (go_at_call 39; refine hform.mono ?_; clear hform; rintro e W2 ⟨rfl, hb2⟩; have HB2 := Aside0.mk hb2; clear hb2)
  go_ret
  exact ⟨rfl, HB1.out.trans (HB2.out.mono HB1.out.size)⟩
 case true =>
  rw [hF] at hform
  have HF := Aside0.mk hF
  obtain ⟨hlp, hdp⟩ := formed_lots hF
  have hlp' : ∀ l ∈ LL, 0 < l.length := by rw [HLL.out]; exact hlp
  have HLP := Aside0.mk hlp'
  have HDP := Aside0.mk hdp
  clear hF hlp hlp' hdp
  go_upto_region 3 with (go_at_call 39; refine hform.mono ?_; clear hform; rintro e W2 ⟨rfl, hb2⟩; have HB2 := Aside0.mk hb2; clear hb2)
  obtain ⟨y0, y1⟩ := PC.out W2 HB2.out
  go_upto_region 4 with (go_at_call 40; refine (PN.out W2 HB2.out).mono ?_; rintro e W3 ⟨B0, d0, B1, d1, rfl, hC0, hd1, hC1, hb3⟩; have HC1 := Aside0.mk hC1; have HB3 := Aside0.mk (HB2.out.trans (hb3.mono HB2.out.size)); clear hC0 hC1 hb3)
  clear y0 y1 x0 x1 PN
  have SL := Aside0.mk (fun (W : World) (hW : Below W3.heap.size W3 W) => lot_at (Kd.C_below HC1.out hW))
  go_upto_region 5 with fail
  go_loopg [21] LL.length (fun gg v21 wr => ∃ i : Nat, v21 = .int .i64 i ∧ i ≤ LL.length ∧ LL.length - i ≤ gg ∧ Aside0 (Below W3.heap.size W3 wr) ∧ Aside0 ((LL.take i).all (fun l => decide (uniqLen l = l.length)) = true))
  case atStart => exact ⟨0, rfl, by omega, by omega, ⟨Below.refl _ _⟩, ⟨rfl⟩⟩
  case round =>
   obtain ⟨i, rfl, hi, hgg, HB5, HA⟩ := hrel
   by_cases hlt : i < LL.length
   ·obtain ⟨ad, B, c, rfl, hcell, hlc, hCq⟩ := SL.out wr HB5.out i hlt
    have hlt' : (i : Int) < (LL.length : Int) := by omega
    obtain ⟨q, hq⟩ : ∃ q, q = LL[i] := ⟨_, rfl⟩
    rw [← hq] at hcell hlc hCq
    have hqm : q ∈ LL := by rw [hq]; exact List.getElem_mem _
    have hq0 := HLP.out q hqm
    have hq20 := (HLB.out q hqm).1
    have hst := strs_of_C (c := c) hCq hq0
    have hb5 : Below wr.heap.size wr (wr.alloc (.cells #[.slice B q.length c] 52)) := below_alloc (Below.refl _ _) _
    have hso := sortedStr_calls wr.heap.size wr.heap.size (.slice B q.length c) q hq0 (by omega) (wr.alloc (.cells #[.slice B q.length c] 52)) (by rw [World.size_alloc]; exact Nat.lt_succ_self _) (by rw [World.size_alloc]; exact Nat.le_succ _) (Boxed.new wr _ _).cell (hst.below hb5)
    have PU := Aside0.mk (fun (W : World) (g cap : Nat) a b d => uniq_calls q (by omega) g cap W a b d)
    have HQ := Aside0.mk hq
    have HB5' := Aside0.mk hb5
    clear hq hqm hst hCq hb5
    have PB := Aside0.mk (fun (W6 W7 : World) (h6 : Below (wr.alloc (.cells #[.slice B q.length c] 52)).heap.size (wr.alloc (.cells #[.slice B q.length c] 52)) W6) (h7 : Below (wr.alloc (.cells #[.slice B q.length c] 52)).heap.size W6 W7) => show Below W3.heap.size W3 W7 from HB5.out.trans ((HB5'.out.trans ((h6.trans h7).mono HB5'.out.size)).mono HB5.out.size))
    obtain ⟨n, hn⟩ : ∃ n, n = uniqLen q := ⟨_, rfl⟩
    simp only [← hn] at PU
    have HN := Aside0.mk hn
    clear hn
    by_cases hu0 : n = q.length
    ·have hu1 : (n : Int) = (q.length : Int) := by omega
     have HU := Aside0.mk hu0
     clear hu0
     go_wp2_with (first
      | (go_at_call 43; refine (valStr_calls _ _ _ _).mono ?_; rintro e w' ⟨rfl, rfl⟩)
      | (go_at_call 42; refine hso.mono ?_; clear hso; rintro e W6 ⟨g, cap, rfl, hcap, hge, hgl, hH, hb6⟩; have hu := PU.out W6 g cap hgl hcap hH; have HGE := Aside0.mk hge; have HGL := Aside0.mk hgl; have HB6 := Aside0.mk hb6; clear hge hgl hH hb6)
      | (go_at_call 41; refine hu.mono ?_; clear hu; rintro e W7 ⟨rfl, hb7⟩; have HB7 := Aside0.mk (hb7 _ HGE.out HB6.out.size); clear hb7))
     go_roundg (LL.length - (i + 1))
     case measure => omega
     case rel => exact ⟨i + 1, by go_num, by omega, by omega, ⟨PB.out _ _ HB6.out HB7.out⟩, ⟨by rw [take_all _ _ i hlt, HA.out, ← HQ.out, ← HN.out, decide_eq_true HU.out]; rfl⟩⟩
    ·have hu1 : ¬ (n : Int) = (q.length : Int) := by omega
     have hr2 : r = 2 := by
      rw [HR.out]
      unfold IC
      rw [if_neg (by rw [HF.out]; decide), if_pos]
      unfold onceF
      rw [← HLL.out]
      exact all_false _ _ i hlt (by rw [← HQ.out, ← HN.out]; exact decide_eq_false hu0)
     subst hr2
     clear hu0
     go_wp2_with (first
      | (go_at_call 43; refine (valStr_calls _ _ _ _).mono ?_; rintro e w' ⟨rfl, rfl⟩)
      | (go_at_call 42; refine hso.mono ?_; clear hso; rintro e W6 ⟨g, cap, rfl, hcap, hge, hgl, hH, hb6⟩; have hu := PU.out W6 g cap hgl hcap hH; have HGE := Aside0.mk hge; have HGL := Aside0.mk hgl; have HB6 := Aside0.mk hb6; clear hge hgl hH hb6)
      | (go_at_call 41; refine hu.mono ?_; clear hu; rintro e W7 ⟨rfl, hb7⟩; have HB7 := Aside0.mk (hb7 _ HGE.out HB6.out.size); clear hb7))
     go_ret
     exact ⟨rfl, HB1.out.trans ((HB3.out.trans ((PB.out _ _ HB6.out HB7.out).mono HB3.out.size)).mono HB1.out.size)⟩
   ·obtain rfl : i = LL.length := by omega
    have hA1 := HA.out
    rw [List.take_length] at hA1
    have HO := Aside0.mk (show onceF l0 l1 = true from by unfold onceF; rw [← HLL.out]; exact hA1)
    obtain ⟨W5, rfl⟩ : ∃ W5, W5 = wr := ⟨_, rfl⟩
    have HB15 := Aside0.mk (show Below W1.heap.size W1 W5 from HB3.out.trans (HB5.out.mono HB3.out.size))
    obtain ⟨y0, y1⟩ := PC.out W5 HB15.out
    have hz := PZ.out W5 HB15.out
    clear hA1 HA SL HC1 PZ
    cases hZ : allD l0 (fun x => decide (0 ≤ sizeF l0 l1 x.f2.f0 x.f2.f1))
    ·rw [hZ] at hz
     have hr3 : r = 3 := by
      rw [HR.out]
      unfold IC
      rw [if_neg (by rw [HF.out]; decide), if_neg (by rw [HO.out]; decide), if_pos hZ]
     subst hr3
     clear hZ
     go_wp2_with (go_at_call 44; refine hz.mono ?_; clear hz; rintro e W6 ⟨rfl, hb6⟩; have HB6 := Aside0.mk hb6; clear hb6)
     go_ret
     exact ⟨rfl, HB1.out.trans ((HB15.out.trans (HB6.out.mono HB15.out.size)).mono HB1.out.size)⟩
    ·rw [hZ] at hz
     have HZ := Aside0.mk hZ
     clear hZ
     go_upto_region 12 with (go_at_call 44; refine hz.mono ?_; clear hz; rintro e W6 ⟨rfl, hb6⟩; have HB6 := Aside0.mk hb6; clear hb6)
     have HB16 := Aside0.mk (show Below W1.heap.size W1 W6 from HB15.out.trans (HB6.out.mono HB15.out.size))
     obtain ⟨z0, z1⟩ := PC.out W6 HB16.out
     go_upto_region 13 with fail
     clear y0 y1 z0 z1
     go_loopg [41] l0.length (fun gg v41 wr => ∃ i : Nat, v41 = .int .i64 i ∧ i ≤ l0.length ∧ l0.length - i ≤ gg ∧ Aside0 (Below W1.heap.size W1 wr) ∧ Aside0 ((l0.take i).all (fun d => ordOne d.f1) = true))
     case atStart => exact ⟨0, rfl, by omega, by omega, HB16, ⟨rfl⟩⟩
     case round =>
      obtain ⟨i, rfl, hi, hgg, HB7, HA⟩ := hrel
      obtain ⟨W7, rfl⟩ : ∃ W7, W7 = wr := ⟨_, rfl⟩
      by_cases hlt : i < l0.length
      ·obtain ⟨ad, A, c, rfl, h1, h2, h3, h4⟩ := PS.out W7 HB7.out i hlt
       have hlt' : (i : Int) < (l0.length : Int) := by omega
       obtain ⟨d, hd⟩ : ∃ d, d = l0[i] := ⟨_, rfl⟩
       have hdm : d ∈ l0 := by rw [hd]; exact List.getElem_mem _
       have hd10 := ND.out d hdm
       have hd0 := HDP.out d hdm
       rw [← hd] at h1 h2 h3 h4
       have HD := Aside0.mk hd
       clear hd hdm h3
       obtain ⟨W8, hW8⟩ : ∃ W8, W8 = W7.alloc (.cells #[.string d.f0, .slice A d.f1.length c] 42) := ⟨_, rfl⟩
       have hb8 : Below W7.heap.size W7 W8 := by rw [hW8]; exact below_alloc (Below.refl _ _) _
       have q0 : W8.cell? ⟨W7.heap.size, 0, none⟩ = some (.string d.f0) := by rw [hW8]; simp
       have q1 : W8.cell? ⟨W7.heap.size, 1, none⟩ = some (.slice A d.f1.length c) := by rw [hW8]; simp
       have hby := byOrd_calls d.f0 A c d.f1 hd0 (by omega) W8 (decs_of_C (Kd.C_below h4 hb8) hd0)
       have HW8 := Aside0.mk hW8
       have HB8 := Aside0.mk (show Below W1.heap.size W1 W8 from HB7.out.trans (hb8.mono HB7.out.size))
       clear hW8 hb8 h4
       go_upto_region 15 with fail
       rw [← HW8.out]
       go_upto_region 16 with (go_at_call 28; refine hby.mono ?_; clear hby; rintro e W9 ⟨⟨g, cap, rfl, hcap, hge, hgl, h6⟩, hb9⟩; have HB9 := Aside0.mk hb9; have H6 := Aside0.mk h6; have HGL := Aside0.mk hgl; clear hge hgl h6 hb9)
       clear q0 q1 h1 h2
       have hlen := ordSorted_length d.f1
       have HLEN := Aside0.mk hlen
       clear hlen
       go_loopg [48] d.f1.length (fun gg v48 wr => ∃ j : Nat, v48 = .int .i64 j ∧ j ≤ d.f1.length ∧ d.f1.length - j ≤ gg ∧ Aside0 (Below W9.heap.size W9 wr) ∧ Aside0 (((List.range d.f1.length).take j).all (fun i => decide (((ordSorted d.f1)[i]?.getD zD).f1 = (i : Int))) = true))
       case atStart => exact ⟨0, rfl, by omega, by omega, ⟨Below.refl _ _⟩, ⟨rfl⟩⟩
       case round =>
        obtain ⟨j, rfl, hj, hgj, HB10, HAj⟩ := hrel
        have HB11 := Aside0.mk (show Below W1.heap.size W1 wr from HB8.out.trans ((HB9.out.trans (HB10.out.mono HB9.out.size)).mono HB8.out.size))
        by_cases hltj : j < d.f1.length
        ·obtain ⟨e0, e1, e2, e3, e4, e5⟩ := (H6.out j hltj).below HB10.out HGL.out
         have hltj' : (j : Int) < (d.f1.length : Int) := by omega
         obtain ⟨x, hx⟩ : ∃ x, x = (ordSorted d.f1)[j]?.getD zD := ⟨_, rfl⟩
         rw [← hx] at e0 e1 e2 e3 e4 e5
         obtain ⟨f0, f1, f2, f3, f4, f5⟩ := at6_new wr x
         have HX := Aside0.mk hx
         clear hx
         by_cases hxj : x.f1 = (j : Int)
         ·have hxj' : (x.f1 == (j : Int)) = true := by simp [hxj]
          have HXJ := Aside0.mk hxj
          go_wp2_with fail
          go_roundg (d.f1.length - (j + 1))
          case measure => omega
          case rel =>
           refine ⟨j + 1, by go_num, by omega, by omega, ⟨below_alloc HB10.out _⟩, ⟨?_⟩⟩
           rw [take_all _ _ j (by simpa using hltj), HAj.out, List.getElem_range, ← HX.out, decide_eq_true HXJ.out]
           rfl
         ·have hr4 : r = 4 := by
           rw [HR.out]
           unfold IC
           rw [if_neg (by rw [HF.out]; decide), if_neg (by rw [HO.out]; decide), if_neg (by rw [HZ.out]; decide), if_pos]
           refine all_false _ _ i hlt ?_
           rw [← HD.out]
           exact all_false _ _ j (by simpa using hltj) (by rw [List.getElem_range, ← HX.out]; exact decide_eq_false hxj)
          subst hr4
          go_wp2_with fail
          go_ret
          exact ⟨rfl, HB1.out.trans ((below_alloc HB11.out _).mono HB1.out.size)⟩
        ·obtain rfl : j = d.f1.length := by omega
         go_wp2_with fail
         go_roundg (l0.length - (i + 1))
         case measure => omega
         case rel =>
          refine ⟨i + 1, by go_num, by omega, by omega, HB11, ⟨?_⟩⟩
          have e1 := HAj.out
          rw [List.take_of_length_le (by simp)] at e1
          rw [take_all _ _ i hlt, HA.out, ← HD.out]
          exact e1
      ·obtain rfl : i = l0.length := by omega
       have hA2 := HA.out
       rw [List.take_length] at hA2
       have HOr := Aside0.mk (show ordF l0 = true from hA2)
       have hm := PM.out HZ.out W7 HB7.out
       obtain ⟨z0, z1⟩ := PC.out W7 HB7.out
       clear hA2 HA PM PC PS
       cases hM : allD l0 (fun x => mayF l0 l1 x.f2.f0 x.f2.f1 x.f4)
       ·rw [hM] at hm
        have hr5 : r = 5 := by
         rw [HR.out]
         unfold IC
         rw [if_neg (by rw [HF.out]; decide), if_neg (by rw [HO.out]; decide), if_neg (by rw [HZ.out]; decide), if_neg (by rw [HOr.out]; decide), if_pos hM]
        subst hr5
        clear hM
        go_wp2_with (go_at_call 44; refine hm.mono ?_; clear hm; rintro e W9 ⟨rfl, hb9⟩; have HB9 := Aside0.mk hb9; clear hb9)
        go_ret
        exact ⟨rfl, HB1.out.trans ((HB7.out.trans (HB9.out.mono HB7.out.size)).mono HB1.out.size)⟩
       ·rw [hM] at hm
        have hr0 : r = 0 := by
         rw [HR.out]
         unfold IC
         rw [if_neg (by rw [HF.out]; decide), if_neg (by rw [HO.out]; decide), if_neg (by rw [HZ.out]; decide), if_neg (by rw [HOr.out]; decide), if_neg (by rw [hM]; decide)]
        subst hr0
        clear hM
        go_wp2_with (go_at_call 44; refine hm.mono ?_; clear hm; rintro e W9 ⟨rfl, hb9⟩; have HB9 := Aside0.mk hb9; clear hb9)
        go_ret
        exact ⟨rfl, HB1.out.trans ((HB7.out.trans (HB9.out.mono HB7.out.size)).mono HB1.out.size)⟩
end
end Go.Proofs.YtjeipkfeihahdaaGreatDoor
