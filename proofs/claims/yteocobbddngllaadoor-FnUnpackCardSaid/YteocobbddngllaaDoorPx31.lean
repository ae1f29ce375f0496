-- PRINTED by print.py (a twelfth state) out of the translation. Not trusted: Lean checks it.
import Derived.Test.YteocobbddngllaaDoorPx0
import Derived.Test.YteocobbddngllaaDoorPx7
import Derived.Test.YteocobbddngllaaDoorPx9
import Derived.Test.YteocobbddngllaaDoorPx11
import Derived.Test.YteocobbddngllaaDoorPx14
import Derived.Test.YteocobbddngllaaDoorPx30
namespace Go.Proofs.YteocobbddngllaaDoor.P
open Go.RowKit Go.Proofs.YteocobbddngllaaDoorW.PrintWords Go.Proofs.YteocobbddngllaaDoorW.PrintLast Go.Proofs.YteocobbddngllaaDoorW.PrintMore
attribute [local go_sem] max2_int min2_int max_two min_two max_three min_three max_four min_four   -- for this text's walks alone
set_option linter.unusedVariables false
set_option linter.unusedSimpArgs false

/-! ### spec_DrawPack: function 22 -/
def spec_DrawPack.f (k : Nat) (l0 : List Int) : Option (ByteArray) := (spec_l1Open.f l0).bind fun bt334 => ((spec_l1Rd_pick.f k bt334.1 bt334.2 4).bind fun bt337 => (if bt337.1 = 0 then ((spec_l1Rd_pick.f k bt334.1 bt337.2 40).bind fun bt339 => ((spec_l1Many.f k (⟨#[0]⟩ : ByteArray) (wrap64 (8 * bt339.1))).bind fun t341 => ((spec_l13Words.f k bt334.1 bt339.2 3).bind fun bt342 => (if t341.size + bt342.1.size ≤ 9223372036854775807 then ((spec_l1Rd_pick.f k bt334.1 bt342.2 5).bind fun bt344 => ((spec_l1Many.f k (⟨#[97, 98, 99, 100, 101, 102, 103, 104]⟩ : ByteArray) bt344.1).bind fun t346 => (if (t341 ++ bt342.1).size + t346.size ≤ 9223372036854775807 then (some ((t341 ++ bt342.1) ++ t346)) else (none)))) else (none))))) else ((spec_l13AnyWords.f k bt334.1 bt337.2).bind fun bt347 => (some bt347.1))))
theorem spec_DrawPack.mono : ∀ a0 k, LeO (spec_DrawPack.f k a0) (spec_DrawPack.f (k + 1) a0) := by
  intro a0 k
  unfold spec_DrawPack.f
  repeat' first
      | (with_reducible exact spec_l13AnyWords.mono _ _ _)
      | (with_reducible exact spec_l13Words.mono _ _ _ _)
      | (with_reducible exact spec_l1Many.mono _ _ _)
      | (with_reducible exact spec_l1Rd_pick.mono _ _ _ _)
      | (with_reducible exact LeO.refl _)
      | (with_reducible exact LeO.none _)
      | (with_reducible refine LeO.ite ?_ ?_)
      | (with_reducible refine LeO.bind ?_ (fun _ => ?_))
      | exact spec_l13AnyWords.mono _ _ _
      | exact spec_l13Words.mono _ _ _ _
      | exact spec_l1Many.mono _ _ _
      | exact spec_l1Rd_pick.mono _ _ _ _
      | exact LeO.none _
      | refine LeO.ite ?_ ?_
      | refine LeO.bind ?_ (fun _ => ?_)
set_option maxHeartbeats 8000000 in
set_option maxRecDepth 100000 in
theorem spec_DrawPack.calls (k : Nat) (A0 : Option Addr) (c0 : Nat) (l0 : List Int) (r : ByteArray) (w : World) (hr0 : Kd.C (Kd.int .u8) w A0 l0.length l0) (hc0 : l0.length ≤ c0) (h : spec_DrawPack.f k l0 = some r) :
    Calls Tryd.prog 22 #[.slice A0 l0.length c0] w fun e w' => e = .returned (.string r) ∧ Below w.heap.size w w' := by
  have HR0 := Aside0.mk hr0
  have HC0 := Aside0.mk hc0
  clear hr0 hc0
  have HB := Aside0.mk (Below.refl w.heap.size w)
  have H : ((spec_l1Open.f l0).bind fun bt334 => ((spec_l1Rd_pick.f k bt334.1 bt334.2 4).bind fun bt337 => (if bt337.1 = 0 then ((spec_l1Rd_pick.f k bt334.1 bt337.2 40).bind fun bt339 => ((spec_l1Many.f k (⟨#[0]⟩ : ByteArray) (wrap64 (8 * bt339.1))).bind fun t341 => ((spec_l13Words.f k bt334.1 bt339.2 3).bind fun bt342 => (if t341.size + bt342.1.size ≤ 9223372036854775807 then ((spec_l1Rd_pick.f k bt334.1 bt342.2 5).bind fun bt344 => ((spec_l1Many.f k (⟨#[97, 98, 99, 100, 101, 102, 103, 104]⟩ : ByteArray) bt344.1).bind fun t346 => (if (t341 ++ bt342.1).size + t346.size ≤ 9223372036854775807 then (some ((t341 ++ bt342.1) ++ t346)) else (none)))) else (none))))) else ((spec_l13AnyWords.f k bt334.1 bt337.2).bind fun bt347 => (some bt347.1))))) = some r := h
  clear h
  replace H := Option.bind_eq_some_iff.mp H
  obtain ⟨⟨t334, t335⟩, A20, H⟩ := H
  replace H : ((spec_l1Rd_pick.f k t334 t335 4).bind fun bt337 => (if bt337.1 = 0 then ((spec_l1Rd_pick.f k t334 bt337.2 40).bind fun bt339 => ((spec_l1Many.f k (⟨#[0]⟩ : ByteArray) (wrap64 (8 * bt339.1))).bind fun t341 => ((spec_l13Words.f k t334 bt339.2 3).bind fun bt342 => (if t341.size + bt342.1.size ≤ 9223372036854775807 then ((spec_l1Rd_pick.f k t334 bt342.2 5).bind fun bt344 => ((spec_l1Many.f k (⟨#[97, 98, 99, 100, 101, 102, 103, 104]⟩ : ByteArray) bt344.1).bind fun t346 => (if (t341 ++ bt342.1).size + t346.size ≤ 9223372036854775807 then (some ((t341 ++ bt342.1) ++ t346)) else (none)))) else (none))))) else ((spec_l13AnyWords.f k t334 bt337.2).bind fun bt347 => (some bt347.1)))) = some r := H
  have A2 := Aside0.mk A20
  clear A20
  replace H := Option.bind_eq_some_iff.mp H
  obtain ⟨⟨t337, t338⟩, A30, H⟩ := H
  replace H : (if t337 = 0 then ((spec_l1Rd_pick.f k t334 t338 40).bind fun bt339 => ((spec_l1Many.f k (⟨#[0]⟩ : ByteArray) (wrap64 (8 * bt339.1))).bind fun t341 => ((spec_l13Words.f k t334 bt339.2 3).bind fun bt342 => (if t341.size + bt342.1.size ≤ 9223372036854775807 then ((spec_l1Rd_pick.f k t334 bt342.2 5).bind fun bt344 => ((spec_l1Many.f k (⟨#[97, 98, 99, 100, 101, 102, 103, 104]⟩ : ByteArray) bt344.1).bind fun t346 => (if (t341 ++ bt342.1).size + t346.size ≤ 9223372036854775807 then (some ((t341 ++ bt342.1) ++ t346)) else (none)))) else (none))))) else ((spec_l13AnyWords.f k t334 t338).bind fun bt347 => (some bt347.1))) = some r := H
  have A3 := Aside0.mk A30
  clear A30
  by_cases c4 : t337 = 0
  · rw [if_pos c4] at H
    have c4b0 : (t337 == 0) = true := beq_iff_eq.mpr c4
    have c4b1 : (t337 != 0) = false := bne_eq_false_iff_eq.mpr c4
    clear c4
    replace H := Option.bind_eq_some_iff.mp H
    obtain ⟨⟨t339, t340⟩, A50, H⟩ := H
    replace H : ((spec_l1Many.f k (⟨#[0]⟩ : ByteArray) (wrap64 (8 * t339))).bind fun t341 => ((spec_l13Words.f k t334 t340 3).bind fun bt342 => (if t341.size + bt342.1.size ≤ 9223372036854775807 then ((spec_l1Rd_pick.f k t334 bt342.2 5).bind fun bt344 => ((spec_l1Many.f k (⟨#[97, 98, 99, 100, 101, 102, 103, 104]⟩ : ByteArray) bt344.1).bind fun t346 => (if (t341 ++ bt342.1).size + t346.size ≤ 9223372036854775807 then (some ((t341 ++ bt342.1) ++ t346)) else (none)))) else (none)))) = some r := H
    have A5 := Aside0.mk A50
    clear A50
    replace H := Option.bind_eq_some_iff.mp H
    obtain ⟨t341, A60, H⟩ := H
    replace H : ((spec_l13Words.f k t334 t340 3).bind fun bt342 => (if t341.size + bt342.1.size ≤ 9223372036854775807 then ((spec_l1Rd_pick.f k t334 bt342.2 5).bind fun bt344 => ((spec_l1Many.f k (⟨#[97, 98, 99, 100, 101, 102, 103, 104]⟩ : ByteArray) bt344.1).bind fun t346 => (if (t341 ++ bt342.1).size + t346.size ≤ 9223372036854775807 then (some ((t341 ++ bt342.1) ++ t346)) else (none)))) else (none))) = some r := H
    have A6 := Aside0.mk A60
    clear A60
    replace H := Option.bind_eq_some_iff.mp H
    obtain ⟨⟨t342, t343⟩, A70, H⟩ := H
    replace H : (if t341.size + t342.size ≤ 9223372036854775807 then ((spec_l1Rd_pick.f k t334 t343 5).bind fun bt344 => ((spec_l1Many.f k (⟨#[97, 98, 99, 100, 101, 102, 103, 104]⟩ : ByteArray) bt344.1).bind fun t346 => (if (t341 ++ t342).size + t346.size ≤ 9223372036854775807 then (some ((t341 ++ t342) ++ t346)) else (none)))) else (none)) = some r := H
    have A7 := Aside0.mk A70
    clear A70
    by_cases c8 : t341.size + t342.size ≤ 9223372036854775807
    · rw [if_pos c8] at H
      have c8b0 := eq_true c8
      have c8b1 : decide (t341.size + t342.size ≤ 9223372036854775807) = true := decide_eq_true c8
      try have c8b2 : (9223372036854775807 < t341.size + t342.size) = False := eq_false (Nat.not_lt.2 c8)
      replace H := Option.bind_eq_some_iff.mp H
      obtain ⟨⟨t344, t345⟩, A90, H⟩ := H
      replace H : ((spec_l1Many.f k (⟨#[97, 98, 99, 100, 101, 102, 103, 104]⟩ : ByteArray) t344).bind fun t346 => (if (t341 ++ t342).size + t346.size ≤ 9223372036854775807 then (some ((t341 ++ t342) ++ t346)) else (none))) = some r := H
      have A9 := Aside0.mk A90
      clear A90
      replace H := Option.bind_eq_some_iff.mp H
      obtain ⟨t346, A100, H⟩ := H
      replace H : (if (t341 ++ t342).size + t346.size ≤ 9223372036854775807 then (some ((t341 ++ t342) ++ t346)) else (none)) = some r := H
      have A10 := Aside0.mk A100
      clear A100
      by_cases c11 : (t341 ++ t342).size + t346.size ≤ 9223372036854775807
      · rw [if_pos c11] at H
        have c11b0 := eq_true c11
        have c11b1 : decide ((t341 ++ t342).size + t346.size ≤ 9223372036854775807) = true := decide_eq_true c11
        try have c11b2 : (9223372036854775807 < (t341 ++ t342).size + t346.size) = False := eq_false (Nat.not_lt.2 c11)
        try have c11b3 : (9223372036854775807 < t341.size + t342.size + t346.size) = False := eq_false (by have q_ := c11; simp only [ByteArray.size_extract, ByteArray.size_append] at q_; (try simp only [decide_eq_true_eq, eq_iff_iff, iff_true] at *); omega)
        obtain rfl := Option.some.inj H
        go_enter Tryd.func22, Tryd.ntmps22
        go_wp2_with (first | ((with_reducible refine gate_callee (f := 39) rfl ?_); refine goesL_ (some 5) rfl rfl Tryd.func39 (by kernel_rfl) rfl #[.slice A0 l0.length c0] rfl (by (try simp only [List.map_toArray, List.map_cons, List.map_nil]); first | done | rfl | (simp only [List.length_drop, List.length_take]; rfl)) ?_; (with_reducible refine (spec_l1Open.calls _ _ l0 t334 t335 w _ ?side1 ?side2 ?side3 A2.out).mono ?_); (case side1 => repeat (first | (with_reducible first | exact HB.out | apply below_alloc | apply pw_below_drewN | apply below_drew1) | exact HB.out)); (case side2 => exact HR0.out); (case side3 => exact HC0.out); rintro e w12 ⟨g336, rfl, hi, hb, hb2⟩; refine ⟨_, rfl, ?_⟩; have n0_ := Aside0.mk (hb); have n1_ := Aside0.mk (hi); clear HB; have HB := n0_; have HI336 := n1_; clear n0_ n1_; (try clear hb); (try clear hb2); (try clear hk); (try clear hi)) | ((with_reducible refine gate_callee (f := 52) rfl ?_); refine goesL_ (some 7) rfl rfl Tryd.func52 (by kernel_rfl) rfl #[.pointer (some ⟨g336, 0, none⟩), .int .i64 4] rfl (by (try simp only [List.map_toArray, List.map_cons, List.map_nil]); first | done | rfl | (simp only [List.length_drop, List.length_take]; rfl)) ?_; (with_reducible refine (spec_l1Rd_pick.calls k g336 t334 t335 4 t337 t338 w _ ?side1 ?side2 A3.out).mono ?_); (case side1 => repeat (first | (with_reducible first | exact HI336.out | apply IsS73.alloc | apply IsS73.drewN | apply IsS73.drew | apply IsS73.set_1) | exact HI336.out)); (case side2 => repeat (first | (with_reducible first | exact HB.out | apply below_alloc | apply pw_below_drewN | apply below_drew1 | refine below_set ?_ (IsS73.ge HI336.out)) | exact HB.out)); rintro e w13 ⟨rfl, hi, hb, hk⟩; refine ⟨_, rfl, ?_⟩; have n0_ := Aside0.mk (hb); have n1_ := Aside0.mk (hi); clear HB; clear HI336; have HB := n0_; have HI336 := n1_; clear n0_ n1_; (try clear hb); (try clear hb2); (try clear hk); (try clear hi)) | ((with_reducible refine gate_callee (f := 52) rfl ?_); refine goesL_ (some 10) rfl rfl Tryd.func52 (by kernel_rfl) rfl #[.pointer (some ⟨g336, 0, none⟩), .int .i64 40] rfl (by (try simp only [List.map_toArray, List.map_cons, List.map_nil]); first | done | rfl | (simp only [List.length_drop, List.length_take]; rfl)) ?_; (with_reducible refine (spec_l1Rd_pick.calls k g336 t334 t338 40 t339 t340 w _ ?side1 ?side2 A5.out).mono ?_); (case side1 => repeat (first | (with_reducible first | exact HI336.out | apply IsS73.alloc | apply IsS73.drewN | apply IsS73.drew | apply IsS73.set_1) | exact HI336.out)); (case side2 => repeat (first | (with_reducible first | exact HB.out | apply below_alloc | apply pw_below_drewN | apply below_drew1 | refine below_set ?_ (IsS73.ge HI336.out)) | exact HB.out)); rintro e w14 ⟨rfl, hi, hb, hk⟩; refine ⟨_, rfl, ?_⟩; have n0_ := Aside0.mk (hb); have n1_ := Aside0.mk (hi); clear HB; clear HI336; have HB := n0_; have HI336 := n1_; clear n0_ n1_; (try clear hb); (try clear hb2); (try clear hk); (try clear hi)) | ((with_reducible refine gate_callee (f := 53) rfl ?_); refine goesL_ (some 12) rfl rfl Tryd.func53 (by kernel_rfl) rfl #[.string (⟨#[0]⟩ : ByteArray), .int .i64 (wrap64 (8 * t339))] rfl (by (try simp only [List.map_toArray, List.map_cons, List.map_nil]); first | done | rfl | (simp only [List.length_drop, List.length_take]; rfl)) ?_; (with_reducible refine (spec_l1Many.calls k (⟨#[0]⟩ : ByteArray) (wrap64 (8 * t339)) t341 _ A6.out).mono ?_); rintro e w' ⟨rfl, ⟨nd, rfl⟩⟩; refine ⟨_, rfl, ?_⟩) | ((with_reducible refine gate_callee (f := 54) rfl ?_); refine goesL_ (some 14) rfl rfl Tryd.func54 (by kernel_rfl) rfl #[.pointer (some ⟨g336, 0, none⟩), .int .i64 3] rfl (by (try simp only [List.map_toArray, List.map_cons, List.map_nil]); first | done | rfl | (simp only [List.length_drop, List.length_take]; rfl)) ?_; (with_reducible refine (spec_l13Words.calls k g336 t334 t340 3 t342 t343 w _ ?side1 ?side2 A7.out).mono ?_); (case side1 => repeat (first | (with_reducible first | exact HI336.out | apply IsS73.alloc | apply IsS73.drewN | apply IsS73.drew | apply IsS73.set_1) | exact HI336.out)); (case side2 => repeat (first | (with_reducible first | exact HB.out | apply below_alloc | apply pw_below_drewN | apply below_drew1 | refine below_set ?_ (IsS73.ge HI336.out)) | exact HB.out)); rintro e w15 ⟨rfl, hi, hb, hk⟩; refine ⟨_, rfl, ?_⟩; have n0_ := Aside0.mk (hb); have n1_ := Aside0.mk (hi); clear HB; clear HI336; have HB := n0_; have HI336 := n1_; clear n0_ n1_; (try clear hb); (try clear hb2); (try clear hk); (try clear hi)) | ((with_reducible refine gate_callee (f := 52) rfl ?_); refine goesL_ (some 17) rfl rfl Tryd.func52 (by kernel_rfl) rfl #[.pointer (some ⟨g336, 0, none⟩), .int .i64 5] rfl (by (try simp only [List.map_toArray, List.map_cons, List.map_nil]); first | done | rfl | (simp only [List.length_drop, List.length_take]; rfl)) ?_; (with_reducible refine (spec_l1Rd_pick.calls k g336 t334 t343 5 t344 t345 w _ ?side1 ?side2 A9.out).mono ?_); (case side1 => repeat (first | (with_reducible first | exact HI336.out | apply IsS73.alloc | apply IsS73.drewN | apply IsS73.drew | apply IsS73.set_1) | exact HI336.out)); (case side2 => repeat (first | (with_reducible first | exact HB.out | apply below_alloc | apply pw_below_drewN | apply below_drew1 | refine below_set ?_ (IsS73.ge HI336.out)) | exact HB.out)); rintro e w16 ⟨rfl, hi, hb, hk⟩; refine ⟨_, rfl, ?_⟩; have n0_ := Aside0.mk (hb); have n1_ := Aside0.mk (hi); clear HB; clear HI336; have HB := n0_; have HI336 := n1_; clear n0_ n1_; (try clear hb); (try clear hb2); (try clear hk); (try clear hi)) | ((with_reducible refine gate_callee (f := 53) rfl ?_); refine goesL_ (some 18) rfl rfl Tryd.func53 (by kernel_rfl) rfl #[.string (⟨#[97, 98, 99, 100, 101, 102, 103, 104]⟩ : ByteArray), .int .i64 t344] rfl (by (try simp only [List.map_toArray, List.map_cons, List.map_nil]); first | done | rfl | (simp only [List.length_drop, List.length_take]; rfl)) ?_; (with_reducible refine (spec_l1Many.calls k (⟨#[97, 98, 99, 100, 101, 102, 103, 104]⟩ : ByteArray) t344 t346 _ A10.out).mono ?_); rintro e w' ⟨rfl, ⟨nd, rfl⟩⟩; refine ⟨_, rfl, ?_⟩))
        go_ret
        exact ⟨by first | rfl | (simp [errW_none, errW_some] <;> rfl) | (simp [*, errW_none, errW_some] <;> rfl) | (simp only [Bool.and_eq_true, beq_iff_eq, Bool.not_eq_true', Bool.not_eq_eq_eq_not, Bool.not_true, Bool.not_false] at *; simp [*]), by repeat (first | (with_reducible first | exact HB.out | apply below_alloc | apply pw_below_drewN | apply below_drew1 | refine below_set ?_ (IsS73.ge HI336.out)) | exact HB.out)⟩
      · rw [if_neg c11] at H
        exact absurd H (by simp)
    · rw [if_neg c8] at H
      exact absurd H (by simp)
  · rw [if_neg c4] at H
    have c4b0 : (t337 == 0) = false := beq_eq_false_iff_ne.mpr c4
    have c4b1 : (t337 != 0) = true := bne_iff_ne.mpr c4
    replace H := Option.bind_eq_some_iff.mp H
    obtain ⟨⟨t347, t348⟩, A170, H⟩ := H
    replace H : (some t347) = some r := H
    have A17 := Aside0.mk A170
    clear A170
    obtain rfl := Option.some.inj H
    go_enter Tryd.func22, Tryd.ntmps22
    go_wp2_with (first | ((with_reducible refine gate_callee (f := 39) rfl ?_); refine goesL_ (some 5) rfl rfl Tryd.func39 (by kernel_rfl) rfl #[.slice A0 l0.length c0] rfl (by (try simp only [List.map_toArray, List.map_cons, List.map_nil]); first | done | rfl | (simp only [List.length_drop, List.length_take]; rfl)) ?_; (with_reducible refine (spec_l1Open.calls _ _ l0 t334 t335 w _ ?side1 ?side2 ?side3 A2.out).mono ?_); (case side1 => repeat (first | (with_reducible first | exact HB.out | apply below_alloc | apply pw_below_drewN | apply below_drew1) | exact HB.out)); (case side2 => exact HR0.out); (case side3 => exact HC0.out); rintro e w18 ⟨g336, rfl, hi, hb, hb2⟩; refine ⟨_, rfl, ?_⟩; have n0_ := Aside0.mk (hb); have n1_ := Aside0.mk (hi); clear HB; have HB := n0_; have HI336 := n1_; clear n0_ n1_; (try clear hb); (try clear hb2); (try clear hk); (try clear hi)) | ((with_reducible refine gate_callee (f := 52) rfl ?_); refine goesL_ (some 7) rfl rfl Tryd.func52 (by kernel_rfl) rfl #[.pointer (some ⟨g336, 0, none⟩), .int .i64 4] rfl (by (try simp only [List.map_toArray, List.map_cons, List.map_nil]); first | done | rfl | (simp only [List.length_drop, List.length_take]; rfl)) ?_; (with_reducible refine (spec_l1Rd_pick.calls k g336 t334 t335 4 t337 t338 w _ ?side1 ?side2 A3.out).mono ?_); (case side1 => repeat (first | (with_reducible first | exact HI336.out | apply IsS73.alloc | apply IsS73.drewN | apply IsS73.drew | apply IsS73.set_1) | exact HI336.out)); (case side2 => repeat (first | (with_reducible first | exact HB.out | apply below_alloc | apply pw_below_drewN | apply below_drew1 | refine below_set ?_ (IsS73.ge HI336.out)) | exact HB.out)); rintro e w19 ⟨rfl, hi, hb, hk⟩; refine ⟨_, rfl, ?_⟩; have n0_ := Aside0.mk (hb); have n1_ := Aside0.mk (hi); clear HB; clear HI336; have HB := n0_; have HI336 := n1_; clear n0_ n1_; (try clear hb); (try clear hb2); (try clear hk); (try clear hi)) | ((with_reducible refine gate_callee (f := 55) rfl ?_); refine goesL_ (some 21) rfl rfl Tryd.func55 (by kernel_rfl) rfl #[.pointer (some ⟨g336, 0, none⟩)] rfl (by (try simp only [List.map_toArray, List.map_cons, List.map_nil]); first | done | rfl | (simp only [List.length_drop, List.length_take]; rfl)) ?_; (with_reducible refine (spec_l13AnyWords.calls k g336 t334 t338 t347 t348 w _ ?side1 ?side2 A17.out).mono ?_); (case side1 => repeat (first | (with_reducible first | exact HI336.out | apply IsS73.alloc | apply IsS73.drewN | apply IsS73.drew | apply IsS73.set_1) | exact HI336.out)); (case side2 => repeat (first | (with_reducible first | exact HB.out | apply below_alloc | apply pw_below_drewN | apply below_drew1 | refine below_set ?_ (IsS73.ge HI336.out)) | exact HB.out)); rintro e w20 ⟨rfl, hi, hb, hk⟩; refine ⟨_, rfl, ?_⟩; have n0_ := Aside0.mk (hb); have n1_ := Aside0.mk (hi); clear HB; clear HI336; have HB := n0_; have HI336 := n1_; clear n0_ n1_; (try clear hb); (try clear hb2); (try clear hk); (try clear hi)))
    go_ret
    exact ⟨by first | rfl | (simp [errW_none, errW_some] <;> rfl) | (simp [*, errW_none, errW_some] <;> rfl) | (simp only [Bool.and_eq_true, beq_iff_eq, Bool.not_eq_true', Bool.not_eq_eq_eq_not, Bool.not_true, Bool.not_false] at *; simp [*]), by repeat (first | (with_reducible first | exact HB.out | apply below_alloc | apply pw_below_drewN | apply below_drew1 | refine below_set ?_ (IsS73.ge HI336.out)) | exact HB.out)⟩

end Go.Proofs.YteocobbddngllaaDoor.P
