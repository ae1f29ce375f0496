/- Plain facts, merged out of several texts: StubChoice, StubPut. -/
import Derived.Test.YtjeipkfeihahdaaGreatDoorLibStep
import Derived.Test.YtjeipkfeihahdaaGreatDoorStubFnd
import Derived.Deep.CutRange
import Derived.Deep.DeepCutAuto
section
namespace Go.Proofs.YtjeipkfeihahdaaGreatDoor
set_option linter.unusedVariables false
set_option linter.unusedSimpArgs false
open Go.RowKit Go.Maps Go.Proofs.YtjeipkfeihahdaaGreatDoor.Lem Go.Proofs.YtjeipkfeihahdaaGreatDoorW.PrintWords Go.Proofs.YtjeipkfeihahdaaGreatDoorW.PrintLast Go.Proofs.YtjeipkfeihahdaaGreatDoorW.PrintMore
theorem sizeTab_scl (size : Int) (h1 : 1 ≤ size) (h6 : size ≤ 5) : sizeTab.getD size.toNat 0 = 2 ^ scl size := by
 rcases (by omega : size = 1 ∨ size = 2 ∨ size = 3 ∨ size = 4 ∨ size = 5) with rfl | rfl | rfl | rfl | rfl <;> rfl
def z85 : Int × Int := (0, 0)
def rd_room (xs : List (Int × Int)) (i : Int) : Int × Int := xs.getD i.toNat z85
theorem at_room {w : World} {A : Option Addr} {n : Nat} {xs : List (Int × Int)} (h : Kd.C kRoom w A n xs) (i : Int) (h0 : 0 ≤ i) (h1 : i < n) : ∃ ad , A = some ad ∧ w.cell? (ad.add (i.toNat * 2)) = some (.int .i64 (rd_room xs i).1) ∧ w.cell? ⟨(ad.add (i.toNat * 2)).block, (ad.add (i.toNat * 2)).off + 1, none⟩ = some (.int .i64 (rd_room xs i).2) := by
 obtain ⟨ad, c, e, _, hK, hc0⟩ := Kd.C_get h z85 i h0 h1
 have hc : ∀ j u, c[j]? = some u → w.cell? (ad.add (i.toNat * 2 + j)) = some u := hc0
 obtain rfl := kRoom_open hK
 exact ⟨ad, e, hc 0 _ rfl, by rw [← add_field _ _ 1 (by omega)]; exact hc 1 _ rfl⟩
theorem p2_iff (s a : Nat) (hs : s ≤ 6) (ha : a ≤ 6) : (2 : Int) ^ s ≤ 2 ^ a ↔ s ≤ a := by
 have key : ∀ s, s ≤ 6 → ∀ a, a ≤ 6 → ((2 : Int) ^ s ≤ 2 ^ a ↔ s ≤ a) := by decide
 exact key s hs a ha
set_option maxHeartbeats 4000000 in
set_option maxRecDepth 100000 in
theorem choice_calls (w0 w : World) (pb mb n kw k : Nat) (p : PS) (size : Int) (hs : 1 ≤ size ∧ size ≤ 6) (hn : n ≤ 800) (hi : Inv kw k p) (hk : kw ≤ 30 ∧ k ≤ 15) (hSB : SBw w0) (H : IsP w0 w pb mb n p) :
  Calls Tryz.prog 73 #[.pointer (some ⟨pb, 0, none⟩), .int .i64 size] w fun e w' => e = .returned (.int .i64 (choiceP p size).1) ∧ IsP w0 w' pb mb (n + 20) (choiceP p size).2 ∧ KeptT w w' := by
 obtain ⟨rv, hP, hR⟩ := H.out
 have hch := hi.choices
 have c6 : w.cell? ⟨pb, 6, none⟩ = some (.int .i64 p.choices) := (blk_cell hP.row 6).trans rfl
 have f6 : w.frozen? ⟨pb, 6, none⟩ = false := blk_frozen hP.row 6
 have hw1 : wrap64 (p.choices + 1) = p.choices + 1 := w64 (by omega) (by omega)
 have A1 := Aside0.mk (H.set_ 6 (.int .i64 (p.choices + 1)) (q := { p with choices := p.choices + 1 }) rfl rfl (fun rv => rfl))
 have HI := Aside0.mk hi
 have HN := Aside0.mk hn
 have HK := Aside0.mk hk
 have HSB := Aside0.mk hSB
 have HS := Aside0.mk hs
 have HH := Aside0.mk H
 have HC := Aside0.mk hch
 clear hP hR hi hn hk hSB H hch hs
 go_enter Tryz.func73, Tryz.ntmps73
 go_upto_if 19 with fail
 go_cut [] (fun wc => Aside0 (IsP w0 wc pb mb (n + 10) (tagP p) ∧ KeptT w wc))
 case first =>
  by_cases h2 : p.choices + 1 = 2
  ·have hb : (p.choices + 1 == 2) = true := beq_iff_eq.mpr h2
   have hF := Inv.find HI.out.choose 4 (by decide)
   have hcall := findp_calls w0 _ pb mb n kw (k + 1) { p with choices := p.choices + 1 } 4 (by decide) 16 (by decide) (by have := HN.out; omega) HI.out.choose (by have := HK.out; omega) A1.out.1
   have hr : 0 ≤ (findP { p with choices := p.choices + 1 } 4).1 ∧ (findP { p with choices := p.choices + 1 } 4).1 ≤ 100000 := by
    obtain ⟨a, b, c, d⟩ := hF
    have := a.words
    have := HK.out
    have := p2pos 4
    omega
   have A2 := Aside0.mk (show tagP p = { (findP { p with choices := p.choices + 1 } 4).2 with tag := (findP { p with choices := p.choices + 1 } 4).1 / 16 } by unfold tagP; rw [if_pos h2])
   obtain ⟨r, hr1⟩ : ∃ r, r = findP { p with choices := p.choices + 1 } 4 := ⟨_, rfl⟩
   rw [← hr1] at hcall hr A2
   obtain ⟨r1, q⟩ := r
   have hd : wrap64 (r1.tdiv 16) = r1 / 16 := by
    rw [Int.tdiv_eq_ediv_of_nonneg hr.1]
    have := hr.2
    have h0 := hr.1
    exact w64 (by simp only at *; omega) (by simp only at *; omega)
   clear hr1 hF hr h2
   go_wp2_with (go_at_call 74; refine hcall.mono ?_; rintro e w1 ⟨rfl, hI1, hK1⟩; have f3 : w1.frozen? ⟨pb, 3, none⟩ = false := (by obtain ⟨rv1, hP1, _⟩ := hI1.out; exact blk_frozen hP1.row 3); have c3 : w1.cell? ⟨pb, 3, none⟩ = some (.int .i64 q.tag) := (by obtain ⟨rv1, hP1, _⟩ := hI1.out; exact (blk_cell hP1.row 3).trans rfl); have A3 := Aside0.mk hI1; have A4 := Aside0.mk hK1; clear hI1 hK1 hcall)
   go_meet
   case rel =>
    rw [A2.out]
    have hS := A3.out.set_ 3 (.int .i64 (r1 / 16)) (q := { q with tag := r1 / 16 }) rfl rfl (fun rv => rfl)
    exact ⟨hS.1, (A1.out.2.trans A4.out).trans hS.2⟩
  ·have hb : (p.choices + 1 == 2) = false := beq_eq_false_iff_ne.mpr h2
   have A2 := Aside0.mk (show tagP p = { p with choices := p.choices + 1 } by unfold tagP; rw [if_neg h2])
   clear h2
   go_wp2
   go_meet
   case rel => rw [A2.out]; exact ⟨A1.out.1.mono (by omega), A1.out.2⟩
 case rest =>
  obtain ⟨hIt, hKt⟩ := hcut.out
  have hit := HI.out.tagged
  have hes := tagP_eq p
  clear hcut A1 c6 f6 hw1
  by_cases h6 : size = 6
  ·subst h6
   have A2 := Aside0.mk (show choiceP p 6 = pointP (tagP p) by unfold choiceP; rw [if_pos rfl])
   generalize tagP p = q at *
   obtain ⟨rv, hP, hR⟩ := hIt.out
   by_cases hn : q.pointer < 0
   ·have A3 := Aside0.mk (show pointP q = (q.ptrs, { q with pointer := q.ptrs, ptrs := q.ptrs + 1 }) by unfold pointP; rw [if_pos hn])
    have c5 : wc.cell? ⟨pb, 5, none⟩ = some (.int .i64 q.pointer) := (blk_cell hP.row 5).trans rfl
    have f5 : wc.frozen? ⟨pb, 5, none⟩ = false := blk_frozen hP.row 5
    have c1 : wc.cell? ⟨pb, 1, none⟩ = some (.int .i64 q.ptrs) := (blk_cell hP.row 1).trans rfl
    have f1 : wc.frozen? ⟨pb, 1, none⟩ = false := blk_frozen hP.row 1
    have hb := decide_eq_true hn
    have hw : wrap64 (q.ptrs + 1) = q.ptrs + 1 := by
     have := hit.ptrs
     have := HK.out
     exact w64 (by omega) (by omega)
    have B1 := Aside0.mk hIt
    have B2 := Aside0.mk hKt
    clear hIt hKt hP hR hit hes hn
    go_wp2
    go_ret
    rw [A2.out, A3.out]
    have hS := B1.out.set_ 5 (.int .i64 q.ptrs) (q := { q with pointer := q.ptrs }) rfl rfl (fun rv => rfl)
    have hS2 := hS.1.set_ 1 (.int .i64 (q.ptrs + 1)) (q := { q with pointer := q.ptrs, ptrs := q.ptrs + 1 }) rfl rfl (fun rv => rfl)
    exact ⟨rfl, hS2.1.mono (by omega), (B2.out.trans hS.2).trans hS2.2⟩
   ·have A3 := Aside0.mk (show pointP q = (q.pointer, q) by unfold pointP; rw [if_neg hn])
    have c5 : wc.cell? ⟨pb, 5, none⟩ = some (.int .i64 q.pointer) := (blk_cell hP.row 5).trans rfl
    have hb := decide_eq_false hn
    have B1 := Aside0.mk hIt
    have B2 := Aside0.mk hKt
    clear hIt hKt hP hR hit hes hn
    go_wp2
    go_ret
    rw [A2.out, A3.out]
    exact ⟨rfl, B1.out.mono (by omega), B2.out⟩
  ·have hb6 : (size == 6) = false := beq_eq_false_iff_ne.mpr h6
   have hsz : sizeTab.getD size.toNat 0 = 2 ^ scl size := sizeTab_scl size HS.out.1 (by have := HS.out; omega)
   have A2 := Aside0.mk (show choiceP p size = roomP (tagP p) (scl size) by unfold choiceP; rw [if_neg h6])
   have hg := (HSB.out.mv (w1 := wc) (hIt.low)).at_ size (by have := HS.out; omega) (by have := HS.out; omega)
   rw [hsz] at hg
   have hs0 : 0 ≤ size := by have := HS.out; omega
   have hs7 : size < 7 := by have := HS.out; omega
   generalize tagP p = q at *
   obtain ⟨z, hz⟩ : ∃ z : Int, z = 2 ^ scl size := ⟨_, rfl⟩
   rw [← hz] at hg
   have HZ := Aside0.mk hz
   obtain ⟨rv, hP, hR⟩ := hIt.out
   have c4 : wc.cell? ⟨pb, 4, none⟩ = some rv := (blk_cell hP.row 4).trans rfl
   obtain ⟨A, c, rfl, hlc, hC⟩ := Kd.R_reads hR
   have B1 := Aside0.mk hIt
   have B2 := Aside0.mk hKt
   have B3 := Aside0.mk hC
   have B4 := Aside0.mk hit
   have B5 := Aside0.mk hes
   have B6 := Aside0.mk hR
   have hu := Tryz.underlying131
   obtain ⟨R, hR0⟩ : ∃ R, R = firstRoom q.rooms (scl size) := ⟨_, rfl⟩
   have B7 := Aside0.mk hR0
   have B8 := Aside0.mk hP
   rw [List.length_map] at hlc hC c4
   clear hIt hKt hP hR hit hes h6 hC hz hsz hR0
   go_wp2
   go_loopg [59] q.rooms.length (fun gg s59 wr => ∃ kk : Nat, s59 = .int .i64 kk ∧ Aside0 (kk ≤ q.rooms.length ∧ q.rooms.length - kk ≤ gg) ∧ Aside0 (Below wc.heap.size wc wr) ∧ Aside0 (firstRoom (q.rooms.drop kk) (scl size) = R))
   case atStart => exact ⟨0, rfl, ⟨Nat.zero_le _, by omega⟩, ⟨Below.refl _ wc⟩, ⟨B7.out.symm⟩⟩
   case round =>
    obtain ⟨kk, rfl, HKK, HB, HF⟩ := hrel
    by_cases hlt : kk < q.rooms.length
    ·have hltz : (kk : Int) < (q.rooms.length : Int) := by omega
     obtain ⟨ad, e0, hx0, hx1⟩ := at_room B3.out (kk : Int) (by omega) (by rw [List.length_map]; exact hltz)
     cases e0
     rw [Int.toNat_natCast] at hx0 hx1
     replace hx0 := (HB.out.cell (World.block_lt_of_cell? wc _ hx0)).trans hx0
     replace hx1 := (HB.out.cell (World.block_lt_of_cell? wc _ hx1)).trans hx1
     have hd : q.rooms.drop kk = q.rooms[kk] :: q.rooms.drop (kk + 1) := List.drop_eq_getElem_cons hlt
     have hrr := B4.out.rooms q.rooms[kk] (List.getElem_mem hlt)
     have hrd : rd_room (q.rooms.map roomRow) (kk : Int) = roomRow q.rooms[kk] := by
      unfold rd_room
      rw [Int.toNat_natCast, List.getD_eq_getElem?_getD, List.getElem?_map, List.getElem?_eq_getElem hlt]
      rfl
     rw [hrd] at hx0 hx1
     have HF1 := HF.out
     rw [hd] at HF1
     unfold firstRoom at HF1
     clear hd HF hrd
     generalize q.rooms[kk] = rm at hx0 hx1 HF1 hrr
     obtain ⟨x, sc⟩ := rm
     obtain ⟨y, hy⟩ : ∃ y : Int, y = 2 ^ sc := ⟨_, rfl⟩
     have hx0' : wr.cell? (ad.add (kk * 2)) = some (.int .i64 x) := hx0
     have hx1' : wr.cell? ⟨(ad.add (kk * 2)).block, (ad.add (kk * 2)).off + 1, none⟩ = some (.int .i64 y) := by rw [hy]; exact hx1
     clear hx0 hx1
     by_cases hsc : scl size ≤ sc
     ·have hge : decide (z ≤ y) = true := decide_eq_true (by rw [hy, HZ.out]; exact (p2_iff _ _ (scl_le size) hrr.1).mpr hsc)
      rw [if_pos hsc] at HF1
      have HF2 := Aside0.mk HF1
      clear HF1 hrr hy hsc
      go_wp2
      go_ret
      have e : roomP q (scl size) = (x, q) := by unfold roomP; rw [← B7.out, ← HF2.out]
      rw [A2.out, e]
      have hb2 : Below wc.heap.size wc (wr.alloc (.cells #[.int .i64 x, .int .i64 y] 131)) := below_alloc HB.out _
      first
       | exact ⟨rfl, (B1.out.below_ hb2).mono (by omega), B2.out.trans (KeptT.of_below hb2)⟩
       | (trace_state; sorry)
     ·have hge : decide (z ≤ y) = false := decide_eq_false (by rw [hy, HZ.out]; exact fun h => hsc ((p2_iff _ _ (scl_le size) hrr.1).mp h))
      rw [if_neg hsc] at HF1
      have HF2 := Aside0.mk HF1
      clear HF1 hrr hy hsc
      go_wp2
      go_roundg (q.rooms.length - (kk + 1))
      case measure => have := HKK.out; omega
      case rel => exact ⟨kk + 1, by have hm := B4.out.many; have hk2 := HK.out; rw [w64 (by omega) (by omega)]; rfl, ⟨by omega, by omega⟩, ⟨below_alloc HB.out _⟩, HF2⟩
    ·have hltz : ¬ (kk : Int) < (q.rooms.length : Int) := by omega
     have HF1 := HF.out
     rw [List.drop_eq_nil_of_le (by omega)] at HF1
     have e : roomP q (scl size) = ((findP q (scl size)).1, { (findP q (scl size)).2 with rooms := q.rooms ++ [((findP q (scl size)).1, scl size)] }) := by unfold roomP; rw [← B7.out, ← HF1]; rfl
     have A3 := Aside0.mk e
     clear HF1 HF e
     have hIv : IsPv w0 wc pb mb (n + 10) q (.slice A q.rooms.length c) := ⟨by have := B8.out; rw [List.length_map] at this; exact this, by have := B6.out; rw [List.length_map] at this; exact this⟩
     have hI2 := (hIv.below_ HB.out).below_ (below_drew (Below.refl _ _))
     have hc := findv_calls w0 wr.drew pb mb (n + 10) (kw + 1) (k + 1) q _ (scl size) (scl_le size) z HZ.out (by have := HN.out; omega) B4.out (by have := HK.out; omega) hI2
     have HQ := Aside0.mk (Inv.find B4.out (scl size) (scl_le size)).1
     have A4 := Aside0.mk (show KeptT w wr.drew from (B2.out.trans (KeptT.of_below HB.out)).trans (KeptT.of_below (below_drew (Below.refl _ _))))
     have A5 := Aside0.mk (show (findP q (scl size)).2.rooms = q.rooms from rfl)
     have A6 := Aside0.mk hI2
     have c4b := hI2.plan.c4
     obtain ⟨L1, hL1_⟩ : ∃ L1, L1 = q.rooms.length + 1 := ⟨_, rfl⟩
     have HL1 := Aside0.mk hL1_
     clear hL1_
     have hinfo : (Tryz.prog.info? 131).map (fun i => (i.zero, i.size, i.bytes)) = some (some (.agg #[(.int .i64 0), (.int .i64 0)]), 2, 16) := by kernel_rfl
     clear hI2 hIv c4 hlt
     generalize findP q (scl size) = R2 at *
     obtain ⟨x, q2⟩ := R2
     have A7 := Aside0.mk A5.out
     clear A5
     go_wp2
     refine start_ (n := 15) (S := fun w' => w'.cell? ⟨pb, 4, none⟩ = some (.slice A q.rooms.length c)) (ds := [14]) #[false, false, false, false, false, false, false, false, false, false, false, false, false, false, false] (by kernel_rfl) rfl rfl (c4b) (fun hHeld => ?_)
     refine pu_ 0 (some 70) rfl ?_
     refine pu_ 1 (some 71) rfl ?_
     refine pu_ 2 (some 72) rfl ?_
     refine pu_ 3 (some 73) rfl ?_
     refine pu_ 5 (some 75) rfl ?_
     refine pu_ 6 (some 76) rfl ?_
     refine pu_ 8 (some 78) rfl ?_
     refine t1_ 4 (some 74) rfl hHeld ?_
     refine on_ 7 (some 77) rfl (fun K hK => ?_)
     refine goes_ Tryz.func74 (by kernel_rfl) rfl #[.pointer (some ⟨pb, 0, none⟩), .int .i64 z] (by rfl) rfl rfl (by simp only [List.map_toArray, List.map_cons, List.map_nil]; rfl) ?_
     with_reducible refine (hc).mono ?_
     rintro e w3 ⟨rfl, hP3, hK3⟩
     refine ⟨_, rfl, ?_⟩
     have r3 := hP3.rooms
     have B9 := Aside0.mk hP3
     have B10 := Aside0.mk (A4.out.trans hK3)
     clear hK3
     refine hK.out _ _ (hP3.plan.c4) (fun hHeld => ?_)
     clear hK K
     refine no_ 77 ?_
     refine pu_ 9 (some 79) rfl ?_
     refine on_ 10 (some 80) rfl (fun K hK => ?_)
     refine va_ ?_
     have hP4 := B9.out.below_ (below_alloc (Below.refl _ _) (.cells #[.int .i64 x, .int .i64 z] 131))
     refine hK.out _ _ (hP4.plan.c4) (fun hHeld => ?_)
     clear hK K
     refine no_ 80 ?_
     refine on_ 11 (some 81) rfl (fun K hK => ?_)
     refine Kd.R_append_step kRoom (w0 := w0) w0.heap.size (by rfl) (.tmp 74) (.tmp 80) 81 131 (.agg #[(.int .i64 0), (.int .i64 0)]) 16 rfl Tryz.underlying81 hinfo rfl (by decide) (by omega) (.slice A q.rooms.length c) (q2.rooms.map roomRow) (x, z) [.int .i64 x, .int .i64 z] (okP pb mb) (fun _ => False) rfl rfl (kRoom_mkM _ _ _ (x, z)) (fun _ hk => hk.elim) ?aF B9.out.rooms B9.out.plan.below B9.out.plan.below.size ?aL ?_
     case aF => exact fun k hk => ⟨fun e => by have := B9.out.plan.lt; omega, fun e => by have := B9.out.plan.lt; omega⟩
     case aL => (rw [List.length_map, A7.out]; have := B4.out.many; have := HK.out; omega)
     intro v4 w4 ho4 hb4 hg4 hat4
     obtain ⟨Ar, cr, er⟩ := Kd.R_slice ho4
     rw [List.length_append, List.length_map, A7.out] at er
     have er2 : v4 = .slice Ar L1 cr := er.trans (by rw [HL1.out]; rfl)
     subst er2
     clear er
     have B11 := Aside0.mk ho4
     have hP5 := B9.out.plan.grown2 hg4 (fun e => (B9.out.rooms.1 _ e.symm).1 rfl) (fun e => (B9.out.rooms.1 _ e.symm).2 rfl) hb4
     have hc5 := hP5.c4
     have hf5 : w4.frozen? ⟨pb, 4, none⟩ = false := blk_frozen hP5.row 4
     refine hK.out _ _ (hP5.c4) (fun hHeld => ?_)
     clear hK K
     refine no_ 81 ?_
     refine pu_ 12 (some 82) rfl ?_
     refine pu_ 13 (some 83) rfl ?_
     refine la_ 14 none rfl (fun K hK => ?_)
     refine sk_ ?_
     refine hK.out _ _ ?_
     clear hK K
     refine done_ (by kernel_rfl) ?_
     have H6 : IsPv w0 ((w4.setCell ⟨pb, 4, none⟩ (.slice Ar L1 cr)).drew) pb mb (n + 20) { q2 with rooms := q.rooms ++ [(x, scl size)] } (.slice Ar L1 cr) := by
      refine IsPv.below_ ⟨(hP5.set_ 4 _ rfl).mono (by omega), ?_⟩ (below_drew (Below.refl _ _))
      have h7 := Kd.R_far (p := ⟨pb, 4, none⟩) B11.out (fun k hk => hk.1) (.slice Ar L1 cr)
      rw [A7.out, HZ.out] at h7
      show Kd.R kRoom 131 _ _ _ _ ((q.rooms ++ [(x, scl size)]).map roomRow)
      rw [List.map_append]
      exact h7
     have K6 : KeptT w ((w4.setCell ⟨pb, 4, none⟩ (.slice Ar L1 cr)).drew) := by
      refine (((B10.out.trans (KeptT.of_grown hg4 (fun k hk => ?_))).trans (KeptT.of_set hP5.row (.inl rfl) 4 _))).trans (KeptT.of_below (below_drew (Below.refl _ _)))
      obtain ⟨h0, inner, hown, hr⟩ := B9.out.rooms
      exact own_typed hown k hk
     have d4 := H6.plan.c4
     have h8 := Kd.R_reads' H6.rooms
     obtain ⟨ad5, e5, d5, _⟩ := at_room h8.2.2 (q.rooms.length : Int) (by omega) (by show (q.rooms.length : Int) < (((q.rooms ++ [(x, scl size)]).map roomRow).length : Nat); rw [List.length_map, List.length_append]; simp only [List.length_singleton]; omega)
     have hrd : rd_room ((q.rooms ++ [(x, scl size)]).map roomRow) (q.rooms.length : Int) = (x, 2 ^ scl size) := by
      unfold rd_room
      rw [Int.toNat_natCast, List.getD_eq_getElem?_getD, List.map_append, List.getElem?_append_right (by simp), List.length_map, Nat.sub_self]
      rfl
     rw [Int.toNat_natCast] at d5
     have d5' : ((w4.setCell ⟨pb, 4, none⟩ (.slice Ar L1 cr)).drew).cell? (ad5.add (q.rooms.length * 2)) = some (.int .i64 x) := by
      have := d5
      rw [show ({ q2 with rooms := q.rooms ++ [(x, scl size)] } : PS).rooms = q.rooms ++ [(x, scl size)] from rfl, hrd] at this
      exact this
     clear d5 hrd h8
     have d5 := d5'
     clear d5'
     subst e5
     have hwl : wrap64 ((L1 : Int) - 1) = (q.rooms.length : Int) := by
      have hm := B4.out.many
      have hk2 := HK.out
      have e := HL1.out
      rw [w64 (by omega) (by omega)]; omega
     have hl1 : (q.rooms.length : Int) < (L1 : Int) := by have e := HL1.out; omega
     have B12 := Aside0.mk H6
     have B13 := Aside0.mk K6
     clear H6 K6 hP5 hc5 hf5
     go_wp2
     refine start_ (n := 14) (S := fun w' => w'.cell? ⟨pb, 4, none⟩ = some (.slice (some ad5) L1 cr) ∧ w'.cell? (ad5.add (q.rooms.length * 2)) = some (.int .i64 x)) (ds := []) #[false, false, false, false, false, false, false, false, false, false, false, false, false, false] (by kernel_rfl) rfl rfl ⟨d4, d5⟩ (fun hHeld => ?_)
     refine pu_ 0 (some 84) rfl ?_
     refine pu_ 1 (some 85) rfl ?_
     refine pu_ 2 (some 86) rfl ?_
     refine pu_ 4 (some 88) rfl ?_
     refine pu_ 5 (some 89) rfl ?_
     refine pu_ 6 (some 90) rfl ?_
     refine tk_ 3 (some 87) rfl hHeld ?_
     refine tk_ 7 (some 91) rfl hHeld ?_
     refine pu_ 8 (some 92) rfl ?_
     refine pu_ 9 (some 93) rfl ?_
     refine pu_ 10 (some 94) rfl ?_
     refine pu_ 11 (some 95) rfl ?_
     refine tk_ 12 (some 96) rfl hHeld ?_
     refine pu_ 13 (some 4) rfl ?_
     refine done_ (by kernel_rfl) ?_
     go_wp2
     go_ret
     rw [A2.out, A3.out]
     exact ⟨rfl, B12.out.all, B13.out⟩
end Go.Proofs.YtjeipkfeihahdaaGreatDoor
end
section
namespace Go.Proofs.YtjeipkfeihahdaaGreatDoor
set_option linter.unusedVariables false
set_option linter.unusedSimpArgs false
open Go.RowKit Go.Maps Go.Proofs.YtjeipkfeihahdaaGreatDoor.Lem Go.Proofs.YtjeipkfeihahdaaGreatDoorW.PrintWords Go.Proofs.YtjeipkfeihahdaaGreatDoorW.PrintLast Go.Proofs.YtjeipkfeihahdaaGreatDoorW.PrintMore
theorem KeptT.set_fresh {w w1 : World} (h : KeptT w w1) {g : Nat} (hg : w.heap.size ≤ g) (j : Nat) (u : Value) : KeptT w (w1.setCell ⟨g, j, none⟩ u) :=
 ⟨by simpa using h.size, fun k cs t fr e h1 h2 => by
  have hk := (Array.getElem?_eq_some_iff.mp e).1
  exact (Below.heap_setCell w1 _ _ k (show k ≠ g by omega)).trans (h.same k cs t fr e h1 h2)⟩
theorem IsP.set_other {w0 w : World} {pb mb n : Nat} {p : PS} (H : IsP w0 w pb mb n p) {g t : Nat} {cs : Array Value} (hb : w.heap[g]? = some (.cells cs t (0, 0))) (h1 : t ≠ 83) (h2 : t ≠ 131) (h0 : w0.heap.size ≤ g) (j : Nat) (u : Value) : IsP w0 (w.setCell ⟨g, j, none⟩ u) pb mb n p := by
 obtain ⟨rv, hP, hR⟩ := H.out
 have hp : pb ≠ g := fun e => by
  subst e
  rw [hP.row] at hb
  injection hb with hb
  injection hb with _ e2 _
  exact h1 e2.symm
 obtain ⟨D, ho, hm⟩ := hP.map
 have hmb : mb ≠ g := fun e => by
  subst e
  obtain ⟨es, clock, hb2, _⟩ := ho
  rw [hb2] at hb
  cases hb
 refine ⟨rv, ⟨(Below.heap_setCell w _ _ pb hp).trans hP.row, hP.old, ⟨D, ho.setCell hmb _, hm⟩, below_set hP.below h0⟩, Kd.R_set hR hb (fun q hq => ?_) j u⟩
 have : q = 131 := by
  rcases List.mem_cons.mp hq with h | h
  ·exact h
  ·simp [kRoom, Kd.pair, Kd.int, Kd.scalar] at h
 rw [this]
 exact fun e => h2 e.symm
theorem small_choice {kw k : Nat} {p : PS} (H : Inv kw k p) (size : Int) (h6 : size ≠ 6) (hk : kw ≤ 40) : (choiceP p size).1 ≤ 100000 := by
 obtain ⟨a, b, c⟩ := H.choice size
 have hw := a.words
 have hp := p2pos (scl size)
 have := (c h6).2
 omega
set_option maxHeartbeats 4000000 in
set_option maxRecDepth 100000 in
theorem put_calls (w0 w : World) (pb mb n kw k : Nat) (p : PS) (size : Int) (ch : Bool) (els : Int) (hs : 1 ≤ size ∧ size ≤ 6) (hn : n ≤ 800) (hi : Inv kw k p) (hk : kw ≤ 30 ∧ k ≤ 15) (hSB : SBw w0) (H : IsP w0 w pb mb n p) :
  Calls Tryz.prog 59 #[.pointer (some ⟨pb, 0, none⟩), .agg #[.int .i64 size, .bool ch, .int .i64 els]] w fun e w' => e = .returned (.agg #[.int .i64 (putP p size ch).1]) ∧ IsP w0 w' pb mb (n + 20) (putP p size ch).2 ∧ KeptT w w' := by
 obtain ⟨W2, hW2⟩ : ∃ W2, W2 = (w.alloc (.cells #[.int .i64 size, .bool ch, .int .i64 els] 38)).alloc (.cells #[.int .i64 0] 113) := ⟨_, rfl⟩
 have hB2 : Below w.heap.size w W2 := by rw [hW2]; exact below_alloc (below_alloc (Below.refl _ _) _) _
 have HI2 := H.below_ hB2
 have b1 : W2.heap[w.heap.size]? = some (.cells #[.int .i64 size, .bool ch, .int .i64 els] 38 (0, 0)) := by
  rw [hW2]
  rw [Below.heap_alloc _ _ _ (by simp)]
  simpa using heap_alloc_new w _
 have b2 : W2.heap[w.heap.size + 1]? = some (.cells #[.int .i64 0] 113 (0, 0)) := by
  rw [hW2]
  have := heap_alloc_new (w.alloc (.cells #[.int .i64 size, .bool ch, .int .i64 els] 38)) (.cells #[.int .i64 0] 113)
  simpa using this
 have hg : size ≠ 6 → W2.cell? ⟨0, size.toNat, none⟩ = some (.int .i64 (2 ^ scl size)) := fun h6 => by
  rw [← sizeTab_scl size hs.1 (by omega)]
  exact (hSB.mv (w1 := W2) HI2.low).at_ size (by omega) (by omega)
 have hs0 : 0 ≤ size := by omega
 have hs7 : size < 7 := by omega
 have HW2 := Aside0.mk hW2
 have B0 := Aside0.mk H.low.size
 have hput := hi.put size ch
 have HN := Aside0.mk hn
 have HK := Aside0.mk hk
 have HI := Aside0.mk hi
 have HS := Aside0.mk hs
 have HSB := Aside0.mk hSB
 have A1 := Aside0.mk HI2
 have A2 := Aside0.mk hB2
 have B1 := Aside0.mk b1
 have B2 := Aside0.mk b2
 have hsize0 : W2.heap.size = w.heap.size + 2 := by rw [hW2]; simp
 have HZ := Aside0.mk hsize0
 by_cases h6 : size = 6
 ·have h6b : (size == 6) = true := beq_iff_eq.mpr h6
  have h6c := Aside0.mk h6
  clear h6 hg
  cases ch with
  | true =>
   have hc := choice_calls w0 W2 pb mb n kw k p size hs hn hi hk hSB HI2
   have A3 := Aside0.mk (show putP p size true = choiceP p size by unfold putP; rw [if_pos rfl, if_pos h6c.out])
   clear hW2 hB2 HI2 b1 b2 hput hn hk hi hs hSB H hsize0
   rw [HW2.out] at hc
   generalize choiceP p size = R at *
   obtain ⟨r, q⟩ := R
   go_enter Tryz.func59, Tryz.ntmps59
   go_wp2_with (go_at_call 73; refine hc.mono ?_; rintro e w1 ⟨rfl, hI1, hK1⟩; rw [← HW2.out] at hK1; have b1 := hK1.same _ _ _ _ B1.out (by decide) (by decide); have b2 := hK1.same _ _ _ _ B2.out (by decide) (by decide); have c1 : w1.cell? ⟨w.heap.size, 0, none⟩ = some (.int .i64 size) := (blk_cell b1 0).trans rfl; have c2 : w1.cell? ⟨w.heap.size + 1, 0, none⟩ = some (.int .i64 0) := (blk_cell b2 0).trans rfl; have f2 : w1.frozen? ⟨w.heap.size + 1, 0, none⟩ = false := blk_frozen b2 0; have A4 := Aside0.mk hI1; have A5 := Aside0.mk hK1; have A6 := Aside0.mk b2; clear hI1 hK1 b1 b2)
   refine bodyPost_ret (results_cell_row rfl _ _ (w.heap.size + 1) 113 #[.int .i64 (r)] (0, 0) _ rfl (blk_put (cs := #[.int .i64 0]) A6.out 0 _ rfl) Tryz.underlying113 rfl (by kernel_rfl)) rfl ?_
   rw [A3.out]
   exact ⟨rfl, A4.out.set_other A6.out (by decide) (by decide) (by have := B0.out; omega) 0 _, (KeptT.trans (KeptT.of_below A2.out) A5.out).set_fresh (by omega) 0 _⟩
  | false =>
   obtain ⟨rv, hv⟩ := HI2.open_
   have hcells : W2.cell? ⟨pb, 1, none⟩ = some (.int .i64 p.ptrs) := (blk_cell hv.plan.row 1).trans rfl
   have hfr : W2.frozen? ⟨pb, 1, none⟩ = false := blk_frozen hv.plan.row 1
   have A3 := Aside0.mk (show putP p size false = (p.ptrs, { p with ptrs := p.ptrs + 1 }) by unfold putP; rw [if_neg (by decide), if_pos h6c.out])
   have hw : wrap64 (p.ptrs + 1) = p.ptrs + 1 := by
    have := hi.ptrs
    exact w64 (by omega) (by omega)
   have A4 := Aside0.mk ((HI2.set_ 1 (.int .i64 (p.ptrs + 1)) (q := { p with ptrs := p.ptrs + 1 }) rfl rfl (fun rv => rfl)))
   have c1 : W2.cell? ⟨w.heap.size, 0, none⟩ = some (.int .i64 size) := (blk_cell b1 0).trans rfl
   have c2 : W2.cell? ⟨w.heap.size + 1, 0, none⟩ = some (.int .i64 0) := (blk_cell b2 0).trans rfl
   have f2 : W2.frozen? ⟨w.heap.size + 1, 0, none⟩ = false := blk_frozen b2 0
   have hne : pb ≠ w.heap.size := fun e => by
    have e1 := hv.plan.row
    rw [e, b1] at e1
    injection e1 with e1
    injection e1 with _ e2 _
    exact absurd e2 (by decide)
   have hne2 : pb ≠ w.heap.size + 1 := fun e => by
    have e1 := hv.plan.row
    rw [e, b2] at e1
    injection e1 with e1
    injection e1 with _ e2 _
    exact absurd e2 (by decide)
   have A6 := Aside0.mk (blk_far b2 (p := ⟨pb, 1, none⟩) (fun e => hne2 e.symm) (.int .i64 (p.ptrs + 1)))
   rw [hW2] at hcells hfr c1 c2 f2
   clear hW2 hB2 HI2 b1 b2 hput hn hk hi hs hSB H hsize0 hv
   go_enter Tryz.func59, Tryz.ntmps59
   go_wp2
   rw [← HW2.out]
   refine bodyPost_ret (results_cell_row rfl _ _ (w.heap.size + 1) 113 #[.int .i64 p.ptrs] (0, 0) _ rfl (blk_put (cs := #[.int .i64 0]) A6.out 0 _ rfl) Tryz.underlying113 rfl (by kernel_rfl)) rfl ?_
   rw [A3.out]
   exact ⟨rfl, (A4.out.1.set_other A6.out (by decide) (by decide) (by have := B0.out; omega) 0 _).mono (by omega), (KeptT.trans (KeptT.of_below A2.out) A4.out.2).set_fresh (by omega) 0 _⟩
 ·have h6b : (size == 6) = false := beq_eq_false_iff_ne.mpr h6
  have h6c := Aside0.mk h6
  replace hg := hg h6
  obtain ⟨z, hz⟩ : ∃ z : Int, z = 2 ^ scl size := ⟨_, rfl⟩
  have HZZ := Aside0.mk hz
  have hzp : 1 ≤ z := by rw [hz]; exact p2pos _
  have hz0 : ¬ z = 0 := by omega
  have hz1 : (z == 0) = false := beq_eq_false_iff_ne.mpr hz0
  have hz64 : z ≤ 64 := by
   rw [hz]
   have := p2mono (scl_le size)
   exact this
  rw [← hz] at hg
  clear hz h6
  cases ch with
  | true =>
   have hc := choice_calls w0 W2 pb mb n kw k p size hs hn hi hk hSB HI2
   have A3 := Aside0.mk (show putP p size true = ((choiceP p size).1 / 2 ^ scl size, (choiceP p size).2) by unfold putP; rw [if_pos rfl, if_neg h6c.out])
   have hr0 := (hi.choice size).2.1
   have hr1 := small_choice hi size h6c.out (by omega)
   rw [← HZZ.out] at A3
   generalize choiceP p size = R at *
   obtain ⟨r, q⟩ := R
   have hd : wrap64 (r.tdiv z) = r / z := by
    have h0 : (0 : Int) ≤ r := hr0
    have h1 : r ≤ 100000 := hr1
    rw [Int.tdiv_eq_ediv_of_nonneg h0]
    have h2 := Int.ediv_nonneg h0 (show 0 ≤ z by omega)
    have h3 := Int.ediv_le_self z h0
    exact w64 (by omega) (by omega)
   rw [hW2] at hg
   clear hW2 hB2 HI2 b1 b2 hput hn hk hi hs hSB H hsize0 hr0 hr1 hzp hz64
   rw [HW2.out] at hc
   go_enter Tryz.func59, Tryz.ntmps59
   go_wp2_with (go_at_call 73; refine hc.mono ?_; rintro e w1 ⟨rfl, hI1, hK1⟩; rw [← HW2.out] at hK1; have b1 := hK1.same _ _ _ _ B1.out (by decide) (by decide); have b2 := hK1.same _ _ _ _ B2.out (by decide) (by decide); have c1 : w1.cell? ⟨w.heap.size, 0, none⟩ = some (.int .i64 size) := (blk_cell b1 0).trans rfl; have c2 : w1.cell? ⟨w.heap.size + 1, 0, none⟩ = some (.int .i64 0) := (blk_cell b2 0).trans rfl; have f2 : w1.frozen? ⟨w.heap.size + 1, 0, none⟩ = false := blk_frozen b2 0; have A4 := Aside0.mk hI1; have A5 := Aside0.mk hK1; have A6 := Aside0.mk b2; have hg1 : w1.cell? ⟨0, size.toNat, none⟩ = some (.int .i64 z) := (by rw [HZZ.out, ← sizeTab_scl size HS.out.1 (by have := HS.out; have := h6c.out; omega)]; exact (HSB.out.mv (w1 := w1) hI1.low).at_ size (by omega) (by omega)); clear hI1 hK1 b1 b2)
   refine bodyPost_ret (results_cell_row rfl _ _ (w.heap.size + 1) 113 #[.int .i64 (r / z)] (0, 0) _ rfl (blk_put (cs := #[.int .i64 0]) A6.out 0 _ rfl) Tryz.underlying113 rfl (by kernel_rfl)) rfl ?_
   rw [A3.out]
   exact ⟨rfl, A4.out.set_other A6.out (by decide) (by decide) (by have := B0.out; omega) 0 _, (KeptT.trans (KeptT.of_below A2.out) A5.out).set_fresh (by omega) 0 _⟩
  | false =>
   have hc := findp_calls w0 W2 pb mb n kw k p (scl size) (scl_le size) z HZZ.out (by omega) hi (by omega) HI2
   have A3 := Aside0.mk (show putP p size false = ((findP p (scl size)).1 / 2 ^ scl size, (findP p (scl size)).2) by unfold putP; rw [if_neg (by decide), if_neg h6c.out])
   obtain ⟨hf1, hf2, hf3, hf4⟩ := hi.find (scl size) (scl_le size)
   rw [← HZZ.out] at A3
   have hfw := hf1.words
   generalize findP p (scl size) = R at *
   obtain ⟨r, q⟩ := R
   have hd : wrap64 (r.tdiv z) = r / z := by
    have h0 : (0 : Int) ≤ r := hf2
    have h1 : r ≤ 100000 := by
     have hq : q.words ≤ kw + 1 := hfw.2
     have hp1 := p2pos (scl size)
     have : r + 2 ^ scl size ≤ 64 * q.words := hf3
     omega
    rw [Int.tdiv_eq_ediv_of_nonneg h0]
    have h2 := Int.ediv_nonneg h0 (show 0 ≤ z by omega)
    have h3 := Int.ediv_le_self z h0
    exact w64 (by omega) (by omega)
   rw [hW2] at hg
   clear hW2 hB2 HI2 b1 b2 hput hn hk hi hs hSB H hsize0 hzp hz64 hf1 hf2 hf3 hf4 hfw
   rw [HW2.out] at hc
   go_enter Tryz.func59, Tryz.ntmps59
   go_wp2_with (go_at_call 74; refine hc.mono ?_; rintro e w1 ⟨rfl, hI1, hK1⟩; rw [← HW2.out] at hK1; have b1 := hK1.same _ _ _ _ B1.out (by decide) (by decide); have b2 := hK1.same _ _ _ _ B2.out (by decide) (by decide); have c1 : w1.cell? ⟨w.heap.size, 0, none⟩ = some (.int .i64 size) := (blk_cell b1 0).trans rfl; have c2 : w1.cell? ⟨w.heap.size + 1, 0, none⟩ = some (.int .i64 0) := (blk_cell b2 0).trans rfl; have f2 : w1.frozen? ⟨w.heap.size + 1, 0, none⟩ = false := blk_frozen b2 0; have A4 := Aside0.mk hI1; have A5 := Aside0.mk hK1; have A6 := Aside0.mk b2; have hg1 : w1.cell? ⟨0, size.toNat, none⟩ = some (.int .i64 z) := (by rw [HZZ.out, ← sizeTab_scl size HS.out.1 (by have := HS.out; have := h6c.out; omega)]; exact (HSB.out.mv (w1 := w1) hI1.low).at_ size (by omega) (by omega)); clear hI1 hK1 b1 b2)
   refine bodyPost_ret (results_cell_row rfl _ _ (w.heap.size + 1) 113 #[.int .i64 (r / z)] (0, 0) _ rfl (blk_put (cs := #[.int .i64 0]) A6.out 0 _ rfl) Tryz.underlying113 rfl (by kernel_rfl)) rfl ?_
   rw [A3.out]
   exact ⟨rfl, IsP.mono (n := n + 10) (A4.out.set_other A6.out (by decide) (by decide) (by have := B0.out; omega) 0 _) (by omega), (KeptT.trans (KeptT.of_below A2.out) A5.out).set_fresh (by omega) 0 _⟩
end Go.Proofs.YtjeipkfeihahdaaGreatDoor
end
