/- Plain facts, merged out of several texts: LemForm, StubFormS. -/
import Derived.Test.YtjeipkfeihahdaaGreatDoorStubSchm
import Derived.Test.YtjeipkfeihahdaaGreatDoorPx10
import Derived.Test.YtjeipkfeihahdaaGreatDoorPx8
import Derived.Test.YtjeipkfeihahdaaGreatDoorPx9
section
namespace Go.Proofs.YtjeipkfeihahdaaGreatDoor.Lem
set_option linter.unusedVariables false
set_option linter.unusedSimpArgs false
open Go Go.RowKit Go.Proofs.YtjeipkfeihahdaaGreatDoor Go.Proofs.YtjeipkfeihahdaaGreatDoor.P Go.Proofs.YtjeipkfeihahdaaGreatDoorW.PrintWords Go.Proofs.YtjeipkfeihahdaaGreatDoorW.PrintLast Go.Proofs.YtjeipkfeihahdaaGreatDoorW.PrintMore
theorem baseS_range (b : ByteArray) : 0 ≤ baseSize b ∧ baseSize b ≤ 6 := by
  unfold baseSize
  split <;> omega
def headOk (s : ByteArray) (n : Nat) : Bool := nameOk s && (baseSize s == 0 && decide (1 ≤ n ∧ n ≤ 8))
def enumOk (e : SE) : Bool := headOk e.f0 e.f1.length && e.f1.all nameOk
def structOk (d : SS) : Bool := headOk d.f0 d.f1.length && d.f1.all (fun x => nameOk x.f0 && nameOk x.f2.f0)
theorem form_eq (l0 : List SS) (l1 : List SE) : (l0.all structOk && (l1.all enumOk && (decide (1 ≤ l0.length ∧ l0.length ≤ 5) && decide (l1.length ≤ 3)))) = formedF l0 l1 := by
  rw [Bool.eq_iff_iff]
  unfold formedF structOk enumOk headOk allD allOf lotsOf topOf
  simp only [Bool.and_eq_true, List.all_eq_true, decide_eq_true_eq, List.mem_append, List.mem_map, List.mem_flatten, List.mem_singleton]
  constructor
  · rintro ⟨h1, h2, h3, h4⟩
    refine ⟨h3, h4, ?_, ?_, ?_, ?_⟩
    · rintro s ⟨l, (⟨d, hd, rfl⟩ | ⟨e, he, rfl⟩) | rfl, hs⟩
      · obtain ⟨x, hx, rfl⟩ := List.mem_map.1 hs
        exact ((h1 d hd).2 x hx).1
      · exact (h2 e he).2 s hs
      · rcases List.mem_append.1 hs with hs | hs
        · obtain ⟨d, hd, rfl⟩ := List.mem_map.1 hs
          exact (h1 d hd).1.1
        · obtain ⟨e, he, rfl⟩ := List.mem_map.1 hs
          exact (h2 e he).1.1
    · rintro l (⟨d, hd, rfl⟩ | ⟨e, he, rfl⟩)
      · simpa using (h1 d hd).1.2.2
      · exact (h2 e he).1.2.2
    · rintro s (⟨d, hd, rfl⟩ | ⟨e, he, rfl⟩)
      · exact (h1 d hd).1.2.1
      · exact (h2 e he).1.2.1
    · intro d hd x hx
      exact ((h1 d hd).2 x hx).2
  · rintro ⟨h3, h4, ha, hl, ht, hb⟩
    refine ⟨fun d hd => ⟨⟨ha _ ⟨_, .inr rfl, List.mem_append_left _ (List.mem_map_of_mem hd)⟩, ht _ (.inl ⟨d, hd, rfl⟩), by simpa using hl _ (.inl ⟨d, hd, rfl⟩)⟩, fun x hx => ⟨ha _ ⟨_, .inl (.inl ⟨d, hd, rfl⟩), List.mem_map_of_mem hx⟩, hb d hd x hx⟩⟩, fun e he => ⟨⟨ha _ ⟨_, .inr rfl, List.mem_append_right _ (List.mem_map_of_mem he)⟩, ht _ (.inr ⟨e, he, rfl⟩), hl _ (.inr ⟨e, he, rfl⟩)⟩, fun s hs => ha _ ⟨_, .inl (.inr ⟨e, he, rfl⟩), hs⟩⟩, h3, h4⟩
end Go.Proofs.YtjeipkfeihahdaaGreatDoor.Lem
end
section
namespace Go.Proofs.YtjeipkfeihahdaaGreatDoor
set_option linter.unusedVariables false
set_option linter.unusedSimpArgs false
open Go.RowKit Go.Proofs.YtjeipkfeihahdaaGreatDoor.P Go.Proofs.YtjeipkfeihahdaaGreatDoor.Lem Go.Proofs.YtjeipkfeihahdaaGreatDoorW.PrintWords Go.Proofs.YtjeipkfeihahdaaGreatDoorW.PrintLast Go.Proofs.YtjeipkfeihahdaaGreatDoorW.PrintMore
theorem nameS (s : ByteArray) (hs : s.size ≤ 1000) (W : World) : Calls Tryz.prog 52 #[.string s] W fun e w' => e = .returned (.bool (nameOk s)) ∧ Below W.heap.size W w' :=
 (spec_l9Name.calls 1002 s _ W (l9Name_f s hs 1002 (Nat.le_refl _))).mono fun _ _ ⟨h1, h2⟩ => ⟨h1, h2.below⟩
theorem sizeS (s : ByteArray) (W : World) : Calls Tryz.prog 53 #[.string s] W fun e w' => e = .returned (.int .i64 (baseSize s)) ∧ Below W.heap.size W w' :=
 (spec_l9Size.calls s _ W (l9Size_f s)).mono fun _ _ ⟨h1, h2⟩ => ⟨h1, h2.below⟩
theorem inS (n : Nat) (W : World) : Calls Tryz.prog 54 #[.int .i64 n, .int .i64 1, .int .i64 8] W fun e w' => e = .returned (.bool (decide (1 ≤ n ∧ n ≤ 8))) ∧ Below W.heap.size W w' :=
 (spec_l1In.calls n 1 8 _ W (l1In_f n 1 8)).mono fun _ _ ⟨h1, h2⟩ => ⟨h1.trans (by rw [show decide ((1 : Int) ≤ (n : Int) ∧ (n : Int) ≤ 8) = decide (1 ≤ n ∧ n ≤ 8) from by rw [decide_eq_decide]; omega]), h2.below⟩
theorem inS5 (n : Nat) (W : World) : Calls Tryz.prog 54 #[.int .i64 n, .int .i64 1, .int .i64 5] W fun e w' => e = .returned (.bool (decide (1 ≤ n ∧ n ≤ 5))) ∧ Below W.heap.size W w' :=
 (spec_l1In.calls n 1 5 _ W (l1In_f n 1 5)).mono fun _ _ ⟨h1, h2⟩ => ⟨h1.trans (by rw [show decide ((1 : Int) ≤ (n : Int) ∧ (n : Int) ≤ 5) = decide (1 ≤ n ∧ n ≤ 5) from by rw [decide_eq_decide]; omega]), h2.below⟩
theorem enum_at {W : World} {A1 : Option Addr} {l1 : List SE} (h : Kd.C k70 W A1 l1.length l1) (i : Nat) (hi : i < l1.length) : ∃ ad A c, A1 = some ad ∧ W.cell? (ad.add (i * 2)) = some (.string l1[i].f0) ∧ W.cell? ⟨(ad.add (i * 2)).block, (ad.add (i * 2)).off + 1, none⟩ = some (.slice A l1[i].f1.length c) ∧ l1[i].f1.length ≤ c ∧ Kd.C Kd.string W A l1[i].f1.length l1[i].f1 := by
 obtain ⟨ad, A, c, e, h1, h2, h3, h4⟩ := at_T70 h (i : Int) (by omega) (by omega)
 rw [rdE_at l1 i hi] at h1 h2 h3 h4
 exact ⟨ad, A, c, e, h1, h2, h3, h4⟩
section
variable {A0 A1 : Option Addr} {c0 c1 : Nat} {l0 : List SS} {l1 : List SE}
set_option maxHeartbeats 3000000 in
set_option maxRecDepth 100000 in
theorem formS_calls (w : World) (hS : Small l0 l1) (h : SchAt w A0 c0 l0 A1 c1 l1) :
  Calls Tryz.prog 30 #[schV A0 c0 l0 A1 c1 l1] w fun e w' => e = .returned (.bool (formedF l0 l1)) ∧ Below w.heap.size w w' := by
 obtain ⟨r, hr⟩ : ∃ r, r = formedF l0 l1 := ⟨_, rfl⟩
 rw [← hr]
 rw [← form_eq] at hr
 have HR1 := Aside0.mk (show l0.all structOk = false → r = false from fun e => by rw [hr, e]; rfl)
 have HR2 := Aside0.mk (show l1.all enumOk = false → r = false from fun e => by rw [hr, e]; simp)
 have HR3 := Aside0.mk (show l0.all structOk = true → l1.all enumOk = true → r = (decide (1 ≤ l0.length ∧ l0.length ≤ 5) && decide (l1.length ≤ 3)) from fun e1 e2 => by rw [hr, e1, e2]; rfl)
 have HS := Aside0.mk hS
 have hn0 := hS.n0
 have hn1 := hS.n1
 have HH0 := Aside0.mk h
 clear hr hS h
 go_enter Tryz.func30, Tryz.ntmps30
 go_upto_region 1 with fail
 obtain ⟨W1, hW1⟩ : ∃ W1, W1 = w.alloc (.cells #[.slice A0 l0.length c0, .slice A1 l1.length c1] 26) := ⟨_, rfl⟩
 obtain ⟨B, hB⟩ : ∃ B, B = w.heap.size := ⟨_, rfl⟩
 have HQ0 := Aside0.mk (show W1.cell? ⟨B, 0, none⟩ = some (.slice A0 l0.length c0) from by rw [hW1, hB]; exact (blk_cell (heap_alloc_new w _) 0).trans rfl)
 have HQ1 := Aside0.mk (show W1.cell? ⟨B, 1, none⟩ = some (.slice A1 l1.length c1) from by rw [hW1, hB]; exact (blk_cell (heap_alloc_new w _) 1).trans rfl)
 have HW := Aside0.mk (show Below w.heap.size w W1 from by rw [hW1]; exact below_alloc (Below.refl _ _) _)
 have PS := Aside0.mk (fun (W : World) (hW : Below W1.heap.size W1 W) => struct_at (Kd.C_below (Kd.C_below HH0.out.h0 HW.out) hW))
 have PE := Aside0.mk (fun (W : World) (hW : Below W1.heap.size W1 W) => enum_at (Kd.C_below (Kd.C_below HH0.out.h1 HW.out) hW))
 rw [← hW1, ← hB]
 clear hW1 hB HH0
 have HC0 := Aside0.mk (Below.refl W1.heap.size W1)
 go_upto_region 2 with fail
 go_loopg [3] l0.length (fun gg v wr => ∃ i : Nat, v = .int .i64 i ∧ i ≤ l0.length ∧ l0.length - i ≤ gg ∧ Aside0 (Below W1.heap.size W1 wr) ∧ Aside0 ((l0.take i).all structOk = true))
 case atStart => exact ⟨0, rfl, by omega, by omega, HC0, ⟨rfl⟩⟩
 case round =>
  clear HC0
  obtain ⟨i, rfl, hi, hgi, HC, HA⟩ := hrel
  have q0 := pw_cell_below HC.out HQ0.out
  have q1 := pw_cell_below HC.out HQ1.out
  by_cases hlt : i < l0.length
  ·obtain ⟨ad, D, cd, rfl, y0, y1, hcd, hCd⟩ := PS.out W1 (Below.refl _ _) i hlt
   have hlt' : (i : Int) < (l0.length : Int) := by omega
   obtain ⟨d, hd⟩ : ∃ d, d = l0[i] := ⟨_, rfl⟩
   rw [← hd] at y0 y1 hcd hCd
   have hsm := HS.out.s0 d (by rw [hd]; exact List.getElem_mem _)
   have HD := Aside0.mk hd
   have HSM := Aside0.mk hsm
   have HCD := Aside0.mk hCd
   have hlen := hsm.2.1
   have N1 := Aside0.mk (nameS d.f0 (by have := hsm.1; omega))
   have N2 := Aside0.mk (sizeS d.f0)
   have N3 := Aside0.mk (inS d.f1.length)
   clear hd hsm hCd hcd
   have PX := Aside0.mk (fun (W : World) (hW : Below W1.heap.size W1 W) => And.intro (And.intro (pw_cell_below hW HQ0.out) (pw_cell_below hW HQ1.out)) (And.intro (pw_cell_below hW y0) (pw_cell_below hW y1)))
   have x0 := pw_cell_below HC.out y0
   have x1 := pw_cell_below HC.out y1
   clear y0 y1
   cases hb1 : nameOk d.f0 with
   | false =>
    obtain rfl : r = false := (HR1.out (all_false _ _ i hlt (by rw [← HD.out]; exact by unfold structOk headOk; rw [hb1]; simp)))
    rw [hb1] at N1
    go_wp2_with (first | (go_at_call 52; with_reducible refine (N1.out _).mono ?_; rintro e Wn ⟨rfl, hbn⟩; replace q0 := pw_cell_below hbn q0; replace q1 := pw_cell_below hbn q1; replace x0 := pw_cell_below hbn x0; replace x1 := pw_cell_below hbn x1; have hq_ := HC.out.trans (hbn.mono HC.out.size); clear HC; have HC := Aside0.mk hq_; clear hq_ hbn) | (go_at_call 53; with_reducible refine (N2.out _).mono ?_; rintro e Wn ⟨rfl, hbn⟩; replace q0 := pw_cell_below hbn q0; replace q1 := pw_cell_below hbn q1; replace x0 := pw_cell_below hbn x0; replace x1 := pw_cell_below hbn x1; have hq_ := HC.out.trans (hbn.mono HC.out.size); clear HC; have HC := Aside0.mk hq_; clear hq_ hbn) | (go_at_call 54; with_reducible refine (N3.out _).mono ?_; rintro e Wn ⟨rfl, hbn⟩; replace q0 := pw_cell_below hbn q0; replace q1 := pw_cell_below hbn q1; replace x0 := pw_cell_below hbn x0; replace x1 := pw_cell_below hbn x1; have hq_ := HC.out.trans (hbn.mono HC.out.size); clear HC; have HC := Aside0.mk hq_; clear hq_ hbn))
    go_ret
    exact ⟨rfl, HW.out.trans (HC.out.mono HW.out.size)⟩
   | true =>
   rw [hb1] at N1
   by_cases hb2 : baseSize d.f0 = 0
   case neg =>
    obtain rfl : r = false := (HR1.out (all_false _ _ i hlt (by rw [← HD.out]; exact by unfold structOk headOk; rw [beq_eq_false_iff_ne.2 hb2]; simp)))
    have hz := baseS_range d.f0
    generalize baseSize d.f0 = z at N2 hb2 hz
    have hz' : z > 0 := by omega
    go_wp2_with (first | (go_at_call 52; with_reducible refine (N1.out _).mono ?_; rintro e Wn ⟨rfl, hbn⟩; replace q0 := pw_cell_below hbn q0; replace q1 := pw_cell_below hbn q1; replace x0 := pw_cell_below hbn x0; replace x1 := pw_cell_below hbn x1; have hq_ := HC.out.trans (hbn.mono HC.out.size); clear HC; have HC := Aside0.mk hq_; clear hq_ hbn) | (go_at_call 53; with_reducible refine (N2.out _).mono ?_; rintro e Wn ⟨rfl, hbn⟩; replace q0 := pw_cell_below hbn q0; replace q1 := pw_cell_below hbn q1; replace x0 := pw_cell_below hbn x0; replace x1 := pw_cell_below hbn x1; have hq_ := HC.out.trans (hbn.mono HC.out.size); clear HC; have HC := Aside0.mk hq_; clear hq_ hbn) | (go_at_call 54; with_reducible refine (N3.out _).mono ?_; rintro e Wn ⟨rfl, hbn⟩; replace q0 := pw_cell_below hbn q0; replace q1 := pw_cell_below hbn q1; replace x0 := pw_cell_below hbn x0; replace x1 := pw_cell_below hbn x1; have hq_ := HC.out.trans (hbn.mono HC.out.size); clear HC; have HC := Aside0.mk hq_; clear hq_ hbn))
    go_ret
    exact ⟨rfl, HW.out.trans (HC.out.mono HW.out.size)⟩
   case pos =>
   rw [hb2] at N2
   by_cases hb3 : 1 ≤ d.f1.length ∧ d.f1.length ≤ 8
   case neg =>
    obtain rfl : r = false := (HR1.out (all_false _ _ i hlt (by rw [← HD.out]; exact by unfold structOk headOk; rw [decide_eq_false hb3]; simp)))
    rw [decide_eq_false hb3] at N3
    go_wp2_with (first | (go_at_call 52; with_reducible refine (N1.out _).mono ?_; rintro e Wn ⟨rfl, hbn⟩; replace q0 := pw_cell_below hbn q0; replace q1 := pw_cell_below hbn q1; replace x0 := pw_cell_below hbn x0; replace x1 := pw_cell_below hbn x1; have hq_ := HC.out.trans (hbn.mono HC.out.size); clear HC; have HC := Aside0.mk hq_; clear hq_ hbn) | (go_at_call 53; with_reducible refine (N2.out _).mono ?_; rintro e Wn ⟨rfl, hbn⟩; replace q0 := pw_cell_below hbn q0; replace q1 := pw_cell_below hbn q1; replace x0 := pw_cell_below hbn x0; replace x1 := pw_cell_below hbn x1; have hq_ := HC.out.trans (hbn.mono HC.out.size); clear HC; have HC := Aside0.mk hq_; clear hq_ hbn) | (go_at_call 54; with_reducible refine (N3.out _).mono ?_; rintro e Wn ⟨rfl, hbn⟩; replace q0 := pw_cell_below hbn q0; replace q1 := pw_cell_below hbn q1; replace x0 := pw_cell_below hbn x0; replace x1 := pw_cell_below hbn x1; have hq_ := HC.out.trans (hbn.mono HC.out.size); clear HC; have HC := Aside0.mk hq_; clear hq_ hbn))
    go_ret
    exact ⟨rfl, HW.out.trans (HC.out.mono HW.out.size)⟩
   case pos =>
   rw [decide_eq_true hb3] at N3
   have HH := Aside0.mk (show headOk d.f0 d.f1.length = true from by unfold headOk; rw [hb1, hb2, decide_eq_true hb3]; rfl)
   clear hb1 hb2 hb3
   go_upto_region 7 with (first | (go_at_call 52; with_reducible refine (N1.out _).mono ?_; rintro e Wn ⟨rfl, hbn⟩; replace q0 := pw_cell_below hbn q0; replace q1 := pw_cell_below hbn q1; replace x0 := pw_cell_below hbn x0; replace x1 := pw_cell_below hbn x1; have hq_ := HC.out.trans (hbn.mono HC.out.size); clear HC; have HC := Aside0.mk hq_; clear hq_ hbn) | (go_at_call 53; with_reducible refine (N2.out _).mono ?_; rintro e Wn ⟨rfl, hbn⟩; replace q0 := pw_cell_below hbn q0; replace q1 := pw_cell_below hbn q1; replace x0 := pw_cell_below hbn x0; replace x1 := pw_cell_below hbn x1; have hq_ := HC.out.trans (hbn.mono HC.out.size); clear HC; have HC := Aside0.mk hq_; clear hq_ hbn) | (go_at_call 54; with_reducible refine (N3.out _).mono ?_; rintro e Wn ⟨rfl, hbn⟩; replace q0 := pw_cell_below hbn q0; replace q1 := pw_cell_below hbn q1; replace x0 := pw_cell_below hbn x0; replace x1 := pw_cell_below hbn x1; have hq_ := HC.out.trans (hbn.mono HC.out.size); clear HC; have HC := Aside0.mk hq_; clear hq_ hbn))
   clear q0 q1 x0 x1 N1 N2 N3
   go_loopg [4] d.f1.length (fun gg v wr => ∃ k : Nat, v = .int .i64 k ∧ k ≤ d.f1.length ∧ d.f1.length - k ≤ gg ∧ Aside0 (Below W1.heap.size W1 wr) ∧ Aside0 ((d.f1.take k).all (fun x => nameOk x.f0 && nameOk x.f2.f0) = true))
   case atStart => exact ⟨0, rfl, by omega, by omega, HC, ⟨rfl⟩⟩
   case round =>
    clear HC
    obtain ⟨k, rfl, hk, hgk, HC, HA4⟩ := hrel
    obtain ⟨⟨q0, q1⟩, x0, x1⟩ := PX.out wr HC.out
    by_cases hltk : k < d.f1.length
    ·have hltk' : (k : Int) < (d.f1.length : Int) := by omega
     obtain ⟨ad2, rfl, y0, _, y2, _⟩ := decl_at (Kd.C_below HCD.out HC.out) k hltk
     obtain ⟨x, hx⟩ : ∃ x, x = d.f1[k] := ⟨_, rfl⟩
     rw [← hx] at y0 y2
     have hxs := HSM.out.2.2 x (by rw [hx]; exact List.getElem_mem _)
     have HX := Aside0.mk hx
     have N1 := Aside0.mk (nameS x.f0 (by have := hxs.1; omega))
     have N2 := Aside0.mk (nameS x.f2.f0 (by have := hxs.2.1; omega))
     clear hx hxs
     cases hb1 : nameOk x.f0 with
     | false =>
      obtain rfl : r = false := (HR1.out (all_false _ _ i hlt (by rw [← HD.out]; unfold structOk; rw [all_false d.f1 _ k hltk (by rw [← HX.out]; rw [hb1]; simp)]; simp)))
      rw [hb1] at N1
      go_wp2_with (first | (go_at_call 52; with_reducible refine (N1.out _).mono ?_; rintro e Wn ⟨rfl, hbn⟩; replace q0 := pw_cell_below hbn q0; replace q1 := pw_cell_below hbn q1; replace x0 := pw_cell_below hbn x0; replace x1 := pw_cell_below hbn x1; replace y0 := pw_cell_below hbn y0; replace y2 := pw_cell_below hbn y2; have hq_ := HC.out.trans (hbn.mono HC.out.size); clear HC; have HC := Aside0.mk hq_; clear hq_ hbn) | (go_at_call 52; with_reducible refine (N2.out _).mono ?_; rintro e Wn ⟨rfl, hbn⟩; replace q0 := pw_cell_below hbn q0; replace q1 := pw_cell_below hbn q1; replace x0 := pw_cell_below hbn x0; replace x1 := pw_cell_below hbn x1; replace y0 := pw_cell_below hbn y0; replace y2 := pw_cell_below hbn y2; have hq_ := HC.out.trans (hbn.mono HC.out.size); clear HC; have HC := Aside0.mk hq_; clear hq_ hbn))
      go_ret
      exact ⟨rfl, HW.out.trans (HC.out.mono HW.out.size)⟩
     | true =>
     rw [hb1] at N1
     cases hb2 : nameOk x.f2.f0 with
     | false =>
      obtain rfl : r = false := (HR1.out (all_false _ _ i hlt (by rw [← HD.out]; unfold structOk; rw [all_false d.f1 _ k hltk (by rw [← HX.out]; rw [hb2]; simp)]; simp)))
      rw [hb2] at N2
      go_wp2_with (first | (go_at_call 52; with_reducible refine (N1.out _).mono ?_; rintro e Wn ⟨rfl, hbn⟩; replace q0 := pw_cell_below hbn q0; replace q1 := pw_cell_below hbn q1; replace x0 := pw_cell_below hbn x0; replace x1 := pw_cell_below hbn x1; replace y0 := pw_cell_below hbn y0; replace y2 := pw_cell_below hbn y2; have hq_ := HC.out.trans (hbn.mono HC.out.size); clear HC; have HC := Aside0.mk hq_; clear hq_ hbn) | (go_at_call 52; with_reducible refine (N2.out _).mono ?_; rintro e Wn ⟨rfl, hbn⟩; replace q0 := pw_cell_below hbn q0; replace q1 := pw_cell_below hbn q1; replace x0 := pw_cell_below hbn x0; replace x1 := pw_cell_below hbn x1; replace y0 := pw_cell_below hbn y0; replace y2 := pw_cell_below hbn y2; have hq_ := HC.out.trans (hbn.mono HC.out.size); clear HC; have HC := Aside0.mk hq_; clear hq_ hbn))
      go_ret
      exact ⟨rfl, HW.out.trans (HC.out.mono HW.out.size)⟩
     | true =>
     rw [hb2] at N2
     have HXX := Aside0.mk (show (nameOk x.f0 && nameOk x.f2.f0) = true from by rw [hb1, hb2]; rfl)
     clear hb1 hb2
     go_wp2_with (first | (go_at_call 52; with_reducible refine (N1.out _).mono ?_; rintro e Wn ⟨rfl, hbn⟩; replace q0 := pw_cell_below hbn q0; replace q1 := pw_cell_below hbn q1; replace x0 := pw_cell_below hbn x0; replace x1 := pw_cell_below hbn x1; replace y0 := pw_cell_below hbn y0; replace y2 := pw_cell_below hbn y2; have hq_ := HC.out.trans (hbn.mono HC.out.size); clear HC; have HC := Aside0.mk hq_; clear hq_ hbn) | (go_at_call 52; with_reducible refine (N2.out _).mono ?_; rintro e Wn ⟨rfl, hbn⟩; replace q0 := pw_cell_below hbn q0; replace q1 := pw_cell_below hbn q1; replace x0 := pw_cell_below hbn x0; replace x1 := pw_cell_below hbn x1; replace y0 := pw_cell_below hbn y0; replace y2 := pw_cell_below hbn y2; have hq_ := HC.out.trans (hbn.mono HC.out.size); clear HC; have HC := Aside0.mk hq_; clear hq_ hbn))
     go_roundg (d.f1.length - (k + 1))
     case measure => omega
     case rel =>
      refine ⟨k + 1, by go_num, by omega, by omega, HC, ⟨?_⟩⟩
      rw [take_all _ _ k hltk, HA4.out, ← HX.out, HXX.out]
      rfl
    ·obtain rfl : k = d.f1.length := by omega
     have e := HA4.out
     rw [List.take_length] at e
     have HXX := Aside0.mk e
     clear e
     go_wp2_with fail
     go_roundg (l0.length - (i + 1))
     case measure => omega
     case rel =>
      refine ⟨i + 1, by go_num, by omega, by omega, HC, ⟨?_⟩⟩
      rw [take_all _ _ i hlt, HA.out, ← HD.out]
      unfold structOk
      rw [HH.out, HXX.out]
      rfl
  ·obtain rfl : i = l0.length := by omega
   have e := HA.out
   rw [List.take_length] at e
   have HA1 := Aside0.mk e
   have HC0 := HC
   clear e HA hi
   go_upto_region 12 with fail
   clear HC q0 q1
   go_loopg [5] l1.length (fun gg v wr => ∃ i : Nat, v = .int .i64 i ∧ i ≤ l1.length ∧ l1.length - i ≤ gg ∧ Aside0 (Below W1.heap.size W1 wr) ∧ Aside0 ((l1.take i).all enumOk = true))
   case atStart => exact ⟨0, rfl, by omega, by omega, HC0, ⟨rfl⟩⟩
   case round =>
    clear HC0
    obtain ⟨i, rfl, hi, hgi, HC, HA⟩ := hrel
    have q0 := pw_cell_below HC.out HQ0.out
    have q1 := pw_cell_below HC.out HQ1.out
    by_cases hlt : i < l1.length
    ·obtain ⟨ad, D, cd, rfl, y0, y1, hcd, hCd⟩ := PE.out W1 (Below.refl _ _) i hlt
     have hlt' : (i : Int) < (l1.length : Int) := by omega
     obtain ⟨d, hd⟩ : ∃ d, d = l1[i] := ⟨_, rfl⟩
     rw [← hd] at y0 y1 hcd hCd
     have hsm := HS.out.s1 d (by rw [hd]; exact List.getElem_mem _)
     have HD := Aside0.mk hd
     have HSM := Aside0.mk hsm
     have HCD := Aside0.mk hCd
     have hlen := hsm.2.1
     have N1 := Aside0.mk (nameS d.f0 (by have := hsm.1; omega))
     have N2 := Aside0.mk (sizeS d.f0)
     have N3 := Aside0.mk (inS d.f1.length)
     clear hd hsm hCd hcd
     have PX := Aside0.mk (fun (W : World) (hW : Below W1.heap.size W1 W) => And.intro (And.intro (pw_cell_below hW HQ0.out) (pw_cell_below hW HQ1.out)) (And.intro (pw_cell_below hW y0) (pw_cell_below hW y1)))
     have x0 := pw_cell_below HC.out y0
     have x1 := pw_cell_below HC.out y1
     clear y0 y1
     cases hb1 : nameOk d.f0 with
     | false =>
      obtain rfl : r = false := (HR2.out (all_false _ _ i hlt (by rw [← HD.out]; exact by unfold enumOk headOk; rw [hb1]; simp)))
      rw [hb1] at N1
      go_wp2_with (first | (go_at_call 52; with_reducible refine (N1.out _).mono ?_; rintro e Wn ⟨rfl, hbn⟩; replace q0 := pw_cell_below hbn q0; replace q1 := pw_cell_below hbn q1; replace x0 := pw_cell_below hbn x0; replace x1 := pw_cell_below hbn x1; have hq_ := HC.out.trans (hbn.mono HC.out.size); clear HC; have HC := Aside0.mk hq_; clear hq_ hbn) | (go_at_call 53; with_reducible refine (N2.out _).mono ?_; rintro e Wn ⟨rfl, hbn⟩; replace q0 := pw_cell_below hbn q0; replace q1 := pw_cell_below hbn q1; replace x0 := pw_cell_below hbn x0; replace x1 := pw_cell_below hbn x1; have hq_ := HC.out.trans (hbn.mono HC.out.size); clear HC; have HC := Aside0.mk hq_; clear hq_ hbn) | (go_at_call 54; with_reducible refine (N3.out _).mono ?_; rintro e Wn ⟨rfl, hbn⟩; replace q0 := pw_cell_below hbn q0; replace q1 := pw_cell_below hbn q1; replace x0 := pw_cell_below hbn x0; replace x1 := pw_cell_below hbn x1; have hq_ := HC.out.trans (hbn.mono HC.out.size); clear HC; have HC := Aside0.mk hq_; clear hq_ hbn))
      go_ret
      exact ⟨rfl, HW.out.trans (HC.out.mono HW.out.size)⟩
     | true =>
     rw [hb1] at N1
     by_cases hb2 : baseSize d.f0 = 0
     case neg =>
      obtain rfl : r = false := (HR2.out (all_false _ _ i hlt (by rw [← HD.out]; exact by unfold enumOk headOk; rw [beq_eq_false_iff_ne.2 hb2]; simp)))
      have hz := baseS_range d.f0
      generalize baseSize d.f0 = z at N2 hb2 hz
      have hz' : z > 0 := by omega
      go_wp2_with (first | (go_at_call 52; with_reducible refine (N1.out _).mono ?_; rintro e Wn ⟨rfl, hbn⟩; replace q0 := pw_cell_below hbn q0; replace q1 := pw_cell_below hbn q1; replace x0 := pw_cell_below hbn x0; replace x1 := pw_cell_below hbn x1; have hq_ := HC.out.trans (hbn.mono HC.out.size); clear HC; have HC := Aside0.mk hq_; clear hq_ hbn) | (go_at_call 53; with_reducible refine (N2.out _).mono ?_; rintro e Wn ⟨rfl, hbn⟩; replace q0 := pw_cell_below hbn q0; replace q1 := pw_cell_below hbn q1; replace x0 := pw_cell_below hbn x0; replace x1 := pw_cell_below hbn x1; have hq_ := HC.out.trans (hbn.mono HC.out.size); clear HC; have HC := Aside0.mk hq_; clear hq_ hbn) | (go_at_call 54; with_reducible refine (N3.out _).mono ?_; rintro e Wn ⟨rfl, hbn⟩; replace q0 := pw_cell_below hbn q0; replace q1 := pw_cell_below hbn q1; replace x0 := pw_cell_below hbn x0; replace x1 := pw_cell_below hbn x1; have hq_ := HC.out.trans (hbn.mono HC.out.size); clear HC; have HC := Aside0.mk hq_; clear hq_ hbn))
      go_ret
      exact ⟨rfl, HW.out.trans (HC.out.mono HW.out.size)⟩
     case pos =>
     rw [hb2] at N2
     by_cases hb3 : 1 ≤ d.f1.length ∧ d.f1.length ≤ 8
     case neg =>
      obtain rfl : r = false := (HR2.out (all_false _ _ i hlt (by rw [← HD.out]; exact by unfold enumOk headOk; rw [decide_eq_false hb3]; simp)))
      rw [decide_eq_false hb3] at N3
      go_wp2_with (first | (go_at_call 52; with_reducible refine (N1.out _).mono ?_; rintro e Wn ⟨rfl, hbn⟩; replace q0 := pw_cell_below hbn q0; replace q1 := pw_cell_below hbn q1; replace x0 := pw_cell_below hbn x0; replace x1 := pw_cell_below hbn x1; have hq_ := HC.out.trans (hbn.mono HC.out.size); clear HC; have HC := Aside0.mk hq_; clear hq_ hbn) | (go_at_call 53; with_reducible refine (N2.out _).mono ?_; rintro e Wn ⟨rfl, hbn⟩; replace q0 := pw_cell_below hbn q0; replace q1 := pw_cell_below hbn q1; replace x0 := pw_cell_below hbn x0; replace x1 := pw_cell_below hbn x1; have hq_ := HC.out.trans (hbn.mono HC.out.size); clear HC; have HC := Aside0.mk hq_; clear hq_ hbn) | (go_at_call 54; with_reducible refine (N3.out _).mono ?_; rintro e Wn ⟨rfl, hbn⟩; replace q0 := pw_cell_below hbn q0; replace q1 := pw_cell_below hbn q1; replace x0 := pw_cell_below hbn x0; replace x1 := pw_cell_below hbn x1; have hq_ := HC.out.trans (hbn.mono HC.out.size); clear HC; have HC := Aside0.mk hq_; clear hq_ hbn))
      go_ret
      exact ⟨rfl, HW.out.trans (HC.out.mono HW.out.size)⟩
     case pos =>
     rw [decide_eq_true hb3] at N3
     have HH := Aside0.mk (show headOk d.f0 d.f1.length = true from by unfold headOk; rw [hb1, hb2, decide_eq_true hb3]; rfl)
     clear hb1 hb2 hb3
     go_upto_region 17 with (first | (go_at_call 52; with_reducible refine (N1.out _).mono ?_; rintro e Wn ⟨rfl, hbn⟩; replace q0 := pw_cell_below hbn q0; replace q1 := pw_cell_below hbn q1; replace x0 := pw_cell_below hbn x0; replace x1 := pw_cell_below hbn x1; have hq_ := HC.out.trans (hbn.mono HC.out.size); clear HC; have HC := Aside0.mk hq_; clear hq_ hbn) | (go_at_call 53; with_reducible refine (N2.out _).mono ?_; rintro e Wn ⟨rfl, hbn⟩; replace q0 := pw_cell_below hbn q0; replace q1 := pw_cell_below hbn q1; replace x0 := pw_cell_below hbn x0; replace x1 := pw_cell_below hbn x1; have hq_ := HC.out.trans (hbn.mono HC.out.size); clear HC; have HC := Aside0.mk hq_; clear hq_ hbn) | (go_at_call 54; with_reducible refine (N3.out _).mono ?_; rintro e Wn ⟨rfl, hbn⟩; replace q0 := pw_cell_below hbn q0; replace q1 := pw_cell_below hbn q1; replace x0 := pw_cell_below hbn x0; replace x1 := pw_cell_below hbn x1; have hq_ := HC.out.trans (hbn.mono HC.out.size); clear HC; have HC := Aside0.mk hq_; clear hq_ hbn))
     clear q0 q1 x0 x1 N1 N2 N3
     go_loopg [6] d.f1.length (fun gg v wr => ∃ k : Nat, v = .int .i64 k ∧ k ≤ d.f1.length ∧ d.f1.length - k ≤ gg ∧ Aside0 (Below W1.heap.size W1 wr) ∧ Aside0 ((d.f1.take k).all nameOk = true))
     case atStart => exact ⟨0, rfl, by omega, by omega, HC, ⟨rfl⟩⟩
     case round =>
      clear HC
      obtain ⟨k, rfl, hk, hgk, HC, HA4⟩ := hrel
      obtain ⟨⟨q0, q1⟩, x0, x1⟩ := PX.out wr HC.out
      by_cases hltk : k < d.f1.length
      ·have hltk' : (k : Int) < (d.f1.length : Int) := by omega
       obtain ⟨ad2, rfl, y0⟩ := str_at (Kd.C_below HCD.out HC.out) k hltk
       obtain ⟨x, hx⟩ : ∃ x, x = d.f1[k] := ⟨_, rfl⟩
       rw [← hx] at y0
       have hxs := HSM.out.2.2 x (by rw [hx]; exact List.getElem_mem _)
       have HX := Aside0.mk hx
       have N1 := Aside0.mk (nameS x (by omega))
       clear hx hxs
       cases hb1 : nameOk x with
       | false =>
        obtain rfl : r = false := (HR2.out (all_false _ _ i hlt (by rw [← HD.out]; unfold enumOk; rw [all_false d.f1 _ k hltk (by rw [← HX.out]; exact hb1)]; simp)))
        rw [hb1] at N1
        go_wp2_with (first | (go_at_call 52; with_reducible refine (N1.out _).mono ?_; rintro e Wn ⟨rfl, hbn⟩; replace q0 := pw_cell_below hbn q0; replace q1 := pw_cell_below hbn q1; replace x0 := pw_cell_below hbn x0; replace x1 := pw_cell_below hbn x1; replace y0 := pw_cell_below hbn y0; have hq_ := HC.out.trans (hbn.mono HC.out.size); clear HC; have HC := Aside0.mk hq_; clear hq_ hbn))
        go_ret
        exact ⟨rfl, HW.out.trans (HC.out.mono HW.out.size)⟩
       | true =>
       rw [hb1] at N1
       have HXX := Aside0.mk hb1
       clear hb1
       go_wp2_with (first | (go_at_call 52; with_reducible refine (N1.out _).mono ?_; rintro e Wn ⟨rfl, hbn⟩; replace q0 := pw_cell_below hbn q0; replace q1 := pw_cell_below hbn q1; replace x0 := pw_cell_below hbn x0; replace x1 := pw_cell_below hbn x1; replace y0 := pw_cell_below hbn y0; have hq_ := HC.out.trans (hbn.mono HC.out.size); clear HC; have HC := Aside0.mk hq_; clear hq_ hbn))
       go_roundg (d.f1.length - (k + 1))
       case measure => omega
       case rel =>
        refine ⟨k + 1, by go_num, by omega, by omega, HC, ⟨?_⟩⟩
        rw [take_all _ _ k hltk, HA4.out, ← HX.out, HXX.out]
        rfl
      ·obtain rfl : k = d.f1.length := by omega
       have e := HA4.out
       rw [List.take_length] at e
       have HXX := Aside0.mk e
       clear e
       go_wp2_with fail
       go_roundg (l1.length - (i + 1))
       case measure => omega
       case rel =>
        refine ⟨i + 1, by go_num, by omega, by omega, HC, ⟨?_⟩⟩
        rw [take_all _ _ i hlt, HA.out, ← HD.out]
        unfold enumOk
        rw [HH.out, HXX.out]
        rfl
    ·obtain rfl : i = l1.length := by omega
     have e := HA.out
     rw [List.take_length] at e
     have hr := HR3.out HA1.out e
     have N5 := Aside0.mk (inS5 l0.length)
     clear e HA hi
     by_cases h5 : 1 ≤ l0.length ∧ l0.length ≤ 5
     ·rw [decide_eq_true h5] at N5 hr
      by_cases h3 : l1.length ≤ 3
      ·rw [decide_eq_true h3] at hr
       obtain rfl : r = true := hr
       have h3' : (l1.length : Int) ≤ 3 := by omega
       go_wp2_with (first | (go_at_call 54; with_reducible refine (N5.out _).mono ?_; rintro e Wn ⟨rfl, hbn⟩; replace q0 := pw_cell_below hbn q0; replace q1 := pw_cell_below hbn q1; have hq_ := HC.out.trans (hbn.mono HC.out.size); clear HC; have HC := Aside0.mk hq_; clear hq_ hbn))
       go_ret
       exact ⟨rfl, HW.out.trans (HC.out.mono HW.out.size)⟩
      ·rw [decide_eq_false h3] at hr
       obtain rfl : r = false := hr
       have h3' : ¬ (l1.length : Int) ≤ 3 := by omega
       go_wp2_with (first | (go_at_call 54; with_reducible refine (N5.out _).mono ?_; rintro e Wn ⟨rfl, hbn⟩; replace q0 := pw_cell_below hbn q0; replace q1 := pw_cell_below hbn q1; have hq_ := HC.out.trans (hbn.mono HC.out.size); clear HC; have HC := Aside0.mk hq_; clear hq_ hbn))
       go_ret
       exact ⟨ret_bool (decide_eq_false (by omega)), HW.out.trans (HC.out.mono HW.out.size)⟩
     ·rw [decide_eq_false h5] at N5 hr
      obtain rfl : r = false := hr
      go_wp2_with (first | (go_at_call 54; with_reducible refine (N5.out _).mono ?_; rintro e Wn ⟨rfl, hbn⟩; replace q0 := pw_cell_below hbn q0; replace q1 := pw_cell_below hbn q1; have hq_ := HC.out.trans (hbn.mono HC.out.size); clear HC; have HC := Aside0.mk hq_; clear hq_ hbn))
      go_ret
      exact ⟨rfl, HW.out.trans (HC.out.mono HW.out.size)⟩
end
end Go.Proofs.YtjeipkfeihahdaaGreatDoor
namespace Go.Proofs.YtjeipkfeihahdaaGreatDoor
open Go.RowKit Go.Proofs.YtjeipkfeihahdaaGreatDoor.P Go.Proofs.YtjeipkfeihahdaaGreatDoor.Lem Go.Proofs.YtjeipkfeihahdaaGreatDoorW.PrintWords Go.Proofs.YtjeipkfeihahdaaGreatDoorW.PrintLast Go.Proofs.YtjeipkfeihahdaaGreatDoorW.PrintMore
instance (l0 : List SS) (l1 : List SE) : Decidable (Small l0 l1) := decidable_of_iff (l0.length ≤ 10 ∧ l1.length ≤ 10 ∧ (∀ d ∈ l0, d.f0.size ≤ 20 ∧ d.f1.length ≤ 10 ∧ ∀ x ∈ d.f1, x.f0.size ≤ 20 ∧ x.f2.f0.size ≤ 20 ∧ (-1000000 ≤ x.f1 ∧ x.f1 ≤ 1000000) ∧ (-1000000 ≤ x.f4 ∧ x.f4 ≤ 1000000)) ∧ (∀ e ∈ l1, e.f0.size ≤ 20 ∧ e.f1.length ≤ 10 ∧ ∀ x ∈ e.f1, x.size ≤ 20)) ⟨fun ⟨a, b, c, d⟩ => ⟨a, b, c, d⟩, fun h => ⟨h.n0, h.n1, h.s0, h.s1⟩⟩
def spec_l9Form.f (l0 : List SS) (l1 : List SE) : Option Bool := if Small l0 l1 then some (formedF l0 l1) else none
theorem spec_l9Form.calls (A0 : Option Addr) (c0 : Nat) (l0 : List SS) (A1 : Option Addr) (c1 : Nat) (l1 : List SE) (r : Bool) (w : World) (h0 : Kd.C k42 w A0 l0.length l0) (b0 : l0.length ≤ c0) (h1 : Kd.C k70 w A1 l1.length l1) (b1 : l1.length ≤ c1) (h : spec_l9Form.f l0 l1 = some r) :
  Calls Tryz.prog 30 #[.agg #[.slice A0 l0.length c0, .slice A1 l1.length c1]] w fun e w' => e = .returned (.bool r) ∧ Below w.heap.size w w' := by
 unfold spec_l9Form.f at h
 by_cases hS : Small l0 l1
 ·rw [if_pos hS] at h
  obtain rfl := Option.some.inj h
  exact formS_calls w hS ⟨h0, b0, h1, b1⟩
 ·rw [if_neg hS] at h
  cases h
theorem formS_some {l0 : List SS} {l1 : List SE} (hS : Small l0 l1) : spec_l9Form.f l0 l1 = some (formedF l0 l1) := if_pos hS
end Go.Proofs.YtjeipkfeihahdaaGreatDoor
end
