/- The law FnIdlLayout, walked. -/
import Derived.Test.YtjeipkfeihahdaaGreatDoorLemFld
import Derived.Test.YtjeipkfeihahdaaGreatDoorStubDrawF
namespace Go.Proofs.YtjeipkfeihahdaaGreatDoor
set_option linter.unusedVariables false
set_option linter.unusedSimpArgs false
open Go.RowKit Go.Proofs.YtjeipkfeihahdaaGreatDoor.P Go.Proofs.YtjeipkfeihahdaaGreatDoor.Lem Go.Proofs.YtjeipkfeihahdaaGreatDoorW.PrintWords Go.Proofs.YtjeipkfeihahdaaGreatDoorW.PrintLast Go.Proofs.YtjeipkfeihahdaaGreatDoorW.PrintMore
set_option maxHeartbeats 4000000 in
set_option maxRecDepth 100000 in
theorem layLaw (A : Option Addr) (c : Nat) (l : List Int) (w : World) (hSB : SBw w) (hl : ∀ x ∈ l, (Lit.int .u8 x).wf = true) (hA : Kd.C (Kd.int .u8) w A l.length l) (hc : l.length ≤ c) :
  Calls Tryz.prog 3 #[.slice A l.length c] w fun e w' => e = .returned (.bool true) ∧ Below w.heap.size w w' := by
 by_cases hlen : (1048576 : Int) < (l.length : Int)
 ·clear hSB hl hA hc
  go_enter Tryz.func3, Tryz.ntmps3
  go_wp2_with fail
  go_ret
  exact ⟨rfl, Below.refl _ _⟩
 have hd := drawF_calls A c l w hl hA hc
 unfold DrawnF at hd
 have HSB := Aside0.mk hSB
 clear hSB hl hA hc
 go_enter Tryz.func3, Tryz.ntmps3
 go_upto_region 3 with fail
 go_upto_region 4 with (go_at_call 5; refine hd.mono ?_; clear hd; rintro e W2 ⟨A0, c0, l0, A1, c1, l1, nm, rfl, hsch, hS, hl5, hnm, hb2⟩; have HSCH := Aside0.mk hsch; have HS := Aside0.mk hS; have HB2 := Aside0.mk hb2; clear hsch hS hb2)
 obtain ⟨W3, hW3⟩ : ∃ W3, W3 = W2.alloc (.cells #[.slice A0 l0.length c0, .slice A1 l1.length c1] 26) := ⟨_, rfl⟩
 obtain ⟨B, hB⟩ : ∃ B, B = W2.heap.size := ⟨_, rfl⟩
 have hb3 : Below W2.heap.size W2 W3 := by rw [hW3]; exact below_alloc (Below.refl _ _) _
 have q0 : W3.cell? ⟨B, 0, none⟩ = some (.slice A0 l0.length c0) := by rw [hW3, hB]; exact (blk_cell (heap_alloc_new W2 _) 0).trans rfl
 have q1 : W3.cell? ⟨B, 1, none⟩ = some (.slice A1 l1.length c1) := by rw [hW3, hB]; exact (blk_cell (heap_alloc_new W2 _) 1).trans rfl
 rw [← hW3, ← hB]
 have HB3 := Aside0.mk (HB2.out.trans (hb3.mono HB2.out.size))
 have HSC3 := Aside0.mk (HSCH.out.below hb3)
 clear hW3 hB hb3 HSCH hlen
 by_cases hno : IC l0 l1 ≠ 0 ∨ findS l0 nm = none
 ·have PI := Aside0.mk (fun W (hW : Below W3.heap.size W3 W) => idlF_none (l0 := l0) (l1 := l1) (A0 := A0) (c0 := c0) (A1 := A1) (c1 := c1) nm W (HSB.out.mv (HB3.out.trans (hW.mono HB3.out.size))) HS.out (HSC3.out.below hW) hno)
  have PS := Aside0.mk (fun W (hW : Below W3.heap.size W3 W) => specF_none (l0 := l0) (l1 := l1) (A0 := A0) (c0 := c0) (A1 := A1) (c1 := c1) nm W HS.out (HSC3.out.below hW) hno)
  clear hno
  go_wp2_with (first | (go_at_call 6; refine (PI.out W3 (Below.refl _ _)).mono ?_; rintro e W4 ⟨rfl, hb4⟩; have HB4 := Aside0.mk hb4; have q2 := pw_cell_below hb4 q0; have q3 := pw_cell_below hb4 q1; clear hb4) | (go_at_call 7; refine (PS.out W4 HB4.out).mono ?_; rintro e W5 ⟨A5, c5, rfl, hb5⟩; have HB5 := Aside0.mk (HB4.out.trans (hb5.mono HB4.out.size)); clear hb5))
  go_ret
  exact ⟨rfl, HB3.out.trans (HB5.out.mono HB3.out.size)⟩
 have hIC : IC l0 l1 = 0 := Classical.byContradiction fun h => hno (.inl h)
 obtain ⟨x, hx⟩ : ∃ x, findS l0 nm = some x := by
  cases e : findS l0 nm with
  | none => exact absurd (Or.inr e) hno
  | some x => exact ⟨x, rfl⟩
 have hxm := (find_mem hx).1
 have hle := list_eq hIC hxm
 have hok := list_ok HS.out hIC hxm
 have hll : (listF l0 l1 x).length ≤ 10 := by unfold listF; rw [List.length_map, ordSorted_length]; exact (HS.out.s0 x hxm).2.1
 obtain ⟨L, hL⟩ : ∃ L, L = listF l0 l1 x := ⟨_, rfl⟩
 have PI := Aside0.mk (fun W (hW : Below W3.heap.size W3 W) => idlF_some (l0 := l0) (l1 := l1) (A0 := A0) (c0 := c0) (A1 := A1) (c1 := c1) nm x W (HSB.out.mv (HB3.out.trans (hW.mono HB3.out.size))) HS.out (HSC3.out.below hW) hIC hx)
 have PS := Aside0.mk (fun W (hW : Below W3.heap.size W3 W) => specF_some (l0 := l0) (l1 := l1) (A0 := A0) (c0 := c0) (A1 := A1) (c1 := c1) nm x W HS.out (HSC3.out.below hW) hIC hx)
 have eL : (ordSorted x.f1).map (fldF l0 l1) = L := hL.symm
 rw [hle, ← hL] at PS
 rw [eL] at PI
 rw [← hL] at hok hll
 clear hno hIC hx hxm hle hL eL
 have PO := Aside0.mk (fun W (hW : Below W3.heap.size W3 W) a4 d4 (hC : Kd.C k38 W a4 L.length L) (hd : L.length ≤ d4) => layoutOf_calls a4 d4 L W (HSB.out.mv (HB3.out.trans (hW.mono HB3.out.size))) hC hd hok)
 obtain ⟨hg1, hg2⟩ := lay_great L
 have HNR := Aside0.mk (nP_range L)
 generalize (layS L).2.words = n0 at *
 generalize (layS L).2.ptrs = n1 at *
 generalize (layS L).2.tag = n2 at *
 have HG1 := Aside0.mk hg1
 have HG2 := Aside0.mk hg2
 clear hg1 hg2 hok
 go_upto_region 9 with (first | (go_at_call 6; refine (PI.out W3 (Below.refl _ _)).mono ?_; rintro e W4 ⟨v4, rfl, hR4, hb4⟩; obtain ⟨a4, d4, rfl⟩ := Kd.R_slice hR4; have HR4 := Aside0.mk hR4; have HB4 := Aside0.mk hb4; have q2 := pw_cell_below hb4 q0; have q3 := pw_cell_below hb4 q1; clear hb4 hR4) | (go_at_call 7; refine (PS.out W4 HB4.out).mono ?_; rintro e W5 ⟨v5, rfl, hR5, hb5⟩; obtain ⟨a5, d5, rfl⟩ := Kd.R_slice hR5; have HC5 := Aside0.mk (Kd.C_below (Kd.R_reads' HR4.out).2.2 hb5); have HB5 := Aside0.mk (HB4.out.trans (hb5.mono HB4.out.size)); clear hb5 hR5) | (go_at_call 8; refine (PO.out W5 HB5.out a4 d4 HC5.out (Kd.R_reads' HR4.out).2.1).mono ?_; rintro e W6 ⟨a6, d6, rfl, hC6, hd6, hb6⟩; have HB6 := Aside0.mk (HB5.out.trans (hb6.mono HB5.out.size)); have HC6 := Aside0.mk (Kd.C_below HC5.out hb6); clear hC6 hd6 hb6))
 obtain ⟨W7, hW7⟩ : ∃ W7, W7 = W6.alloc (.cells #[.int .i64 n0, .int .i64 n1, .slice a6 L.length d6, .int .i64 n2] 34) := ⟨_, rfl⟩
 obtain ⟨X, hX⟩ : ∃ X, X = W6.heap.size := ⟨_, rfl⟩
 have hb7 : Below W6.heap.size W6 W7 := by rw [hW7]; exact below_alloc (Below.refl _ _) _
 have hx7 : W7.heap[X]? = some (.cells #[.int .i64 n0, .int .i64 n1, .slice a6 L.length d6, .int .i64 n2] 34 (0, 0)) := by rw [hW7, hX]; exact heap_alloc_new W6 _
 have HY0 := Aside0.mk (show W7.cell? ⟨X, 0, none⟩ = some (.int .i64 n0) from (blk_cell hx7 0).trans rfl)
 have HY1 := Aside0.mk (show W7.cell? ⟨X, 1, none⟩ = some (.int .i64 n1) from (blk_cell hx7 1).trans rfl)
 have HY3 := Aside0.mk (show W7.cell? ⟨X, 3, none⟩ = some (.int .i64 n2) from (blk_cell hx7 3).trans rfl)
 have HC7 := Aside0.mk (Kd.C_below HC6.out hb7)
 have HB7 := Aside0.mk (HB3.out.trans ((HB6.out.trans (hb7.mono HB6.out.size)).mono HB3.out.size))
 rw [← hW7, ← hX]
 clear hW7 hX hb7 hx7 q0 q1 q2 q3
 go_upto_region 11 with fail
 go_loopg [11, 12] L.length (fun gg v11 v12 wr => ∃ i : Nat, v12 = .int .i64 i ∧ v11 = .int .i64 (nP (L.take i)) ∧ i ≤ L.length ∧ L.length - i ≤ gg ∧ Aside0 (Below W7.heap.size W7 wr))
 case atStart => exact ⟨0, rfl, rfl, by omega, by omega, ⟨Below.refl _ _⟩⟩
 case round =>
  obtain ⟨i, rfl, rfl, hi, hgi, HB8⟩ := hrel
  by_cases hlt : i < L.length
  ·have hlt' : (i : Int) < (L.length : Int) := by omega
   obtain ⟨ad, e0, x0, _, _⟩ := at_T38 (Kd.C_below HC7.out HB8.out) (i : Int) (by omega) hlt'
   cases e0
   rw [Int.toNat_natCast] at x0
   have hrd : rd_T38 L (i : Int) = L[i] := by
    unfold rd_T38
    rw [Int.toNat_natCast, List.getD_eq_getElem?_getD, List.getElem?_eq_getElem hlt, Option.getD_some]
   rw [hrd] at x0
   have HT := Aside0.mk (nP_take L i hlt)
   obtain ⟨r0, r1⟩ := nP_range (L.take i)
   rw [List.length_take, Nat.min_eq_left hi] at r1
   generalize nP (L.take i) = np at *
   generalize L[i].f0 = sz at *
   clear hrd
   by_cases hs : sz = 6
   ·subst hs
    go_wp2_with fail
    go_roundg (L.length - (i + 1))
    case measure => omega
    case rel =>
     refine ⟨i + 1, by first | go_num | (congr 1; unfold wrap64; omega), ?_, by omega, by omega, HB8⟩
     rw [HT.out, if_pos trivial]
   ·go_wp2_with fail
    go_roundg (L.length - (i + 1))
    case measure => omega
    case rel =>
     refine ⟨i + 1, by first | go_num | (congr 1; unfold wrap64; omega), ?_, by omega, by omega, HB8⟩
     rw [HT.out, if_neg hs, Int.add_zero]
  ·obtain rfl : i = L.length := by omega
   have y0 := pw_cell_below HB8.out HY0.out
   have y1 := pw_cell_below HB8.out HY1.out
   have y3 := pw_cell_below HB8.out HY3.out
   have hg1 := HG1.out
   have hg2 := HG2.out
   obtain ⟨r0, r1⟩ := HNR.out
   have e : nP (L.take L.length) = nP L := by rw [List.take_length]
   rw [e]
   clear e
   generalize nP L = np at *
   by_cases hn : 0 ≤ n2
   ·rw [if_pos hn] at hg2
    go_wp2_with fail
    go_ret
    refine ⟨?_, HB7.out.trans (HB8.out.mono HB7.out.size)⟩
    rfl
   ·rw [if_neg hn] at hg2
    go_wp2_with fail
    go_ret
    refine ⟨?_, HB7.out.trans (HB8.out.mono HB7.out.size)⟩
    show Ending.returned (.bool (decide (n0 ≤ (L.length : Int) - np))) = .returned (.bool true)
    rw [decide_eq_true (by omega)]
end Go.Proofs.YtjeipkfeihahdaaGreatDoor
