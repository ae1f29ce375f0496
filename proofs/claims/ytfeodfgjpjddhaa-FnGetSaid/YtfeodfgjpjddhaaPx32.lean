-- PRINTED by print.py (a twelfth state) out of the translation. Not trusted: Lean checks it.
import Derived.Test.YtfeodfgjpjddhaaPx0
import Derived.Test.YtfeodfgjpjddhaaPx13
import Derived.Test.YtfeodfgjpjddhaaPx16
import Derived.Test.YtfeodfgjpjddhaaPx18
import Derived.Test.YtfeodfgjpjddhaaPx21
import Derived.Test.YtfeodfgjpjddhaaPx23
namespace Go.Proofs.Ytfeodfgjpjddhaa.P
open Go.RowKit Go.Proofs.YtfeodfgjpjddhaaW.PrintWords Go.Proofs.YtfeodfgjpjddhaaW.PrintLast Go.Proofs.YtfeodfgjpjddhaaW.PrintMore
attribute [local go_sem] max2_int min2_int max_two min_two max_three min_three max_four min_four   -- for this text's walks alone
set_option linter.unusedVariables false
set_option linter.unusedSimpArgs false

/-! ### laws_FnGet: function 6 -/
def laws_FnGet.j0 : Nat → ByteArray → Int → Int → Int → ByteArray → Bool → ByteArray → Bool → Bool → Option (Bool)
  | 0, _, _, _, _, _, _, _, _, _ => none
  | k + 1, x3, x4, x5, x6, x7, x8, x9, x10, x61 => if x61 = true then (if x7.toList = x9.toList then (if (x8 == x10) = true then ((impl_Get.f k x3 x4 x5).bind fun t291 => ((spec_Get.f k x3 x4 x5).bind fun t292 => (some (t291 == t292)))) else (some false)) else (some false)) else ((impl_Get.f k x3 x4 x5).bind fun t293 => ((impl_Put.f k x7 x4 x5 t293).bind fun bt294 => ((impl_Get.f k x7 x4 x5).bind fun t296 => (if t296 = x6 then (if bt294.2 = true then (if bt294.1.toList = x3.toList then (some ((x7.size : Int) == (x3.size : Int))) else (some false)) else (some false)) else (some false)))))
def laws_FnGet.f (k : Nat) (l0 : List Int) : Option (Bool) := if (l0.length : Int) > 1048576 then (some true) else ((spec_DrawPut.f k l0).bind fun bt281 => ((impl_Put.f k bt281.1 bt281.2.1 bt281.2.2.1 bt281.2.2.2).bind fun bt285 => ((spec_Put.f k bt281.1 bt281.2.1 bt281.2.2.1 bt281.2.2.2).bind fun bt287 => (if bt285.1.toList = bt287.1.toList then (if (bt285.2 != bt287.2) = true then (laws_FnGet.j0 k bt281.1 bt281.2.1 bt281.2.2.1 bt281.2.2.2 bt285.1 bt285.2 bt287.1 bt287.2 true) else ((impl_Get.f k bt281.1 bt281.2.1 bt281.2.2.1).bind fun t289 => ((spec_Get.f k bt281.1 bt281.2.1 bt281.2.2.1).bind fun t290 => (if t289 = t290 then (laws_FnGet.j0 k bt281.1 bt281.2.1 bt281.2.2.1 bt281.2.2.2 bt285.1 bt285.2 bt287.1 bt287.2 (!bt285.2)) else (laws_FnGet.j0 k bt281.1 bt281.2.1 bt281.2.2.1 bt281.2.2.2 bt285.1 bt285.2 bt287.1 bt287.2 true))))) else (laws_FnGet.j0 k bt281.1 bt281.2.1 bt281.2.2.1 bt281.2.2.2 bt285.1 bt285.2 bt287.1 bt287.2 true)))))
theorem laws_FnGet.mono_l : ∀ k, (∀ y0 y1 y2 y3 y4 y5 y6 y7 y8, LeO (laws_FnGet.j0 k y0 y1 y2 y3 y4 y5 y6 y7 y8) (laws_FnGet.j0 (k + 1) y0 y1 y2 y3 y4 y5 y6 y7 y8))
  | 0 => fun _ _ _ _ _ _ _ _ _ r h => by simp [laws_FnGet.j0] at h
  | k + 1 => by
    have ih0 := laws_FnGet.mono_l k
    · intro y0 y1 y2 y3 y4 y5 y6 y7 y8
      unfold laws_FnGet.j0
      repeat' first
      | (with_reducible exact ih0 _ _ _ _ _ _ _ _ _)
      | (with_reducible exact impl_Get.mono _ _ _ _)
      | (with_reducible exact impl_Put.mono _ _ _ _ _)
      | (with_reducible exact spec_DrawPut.mono _ _)
      | (with_reducible exact spec_Get.mono _ _ _ _)
      | (with_reducible exact spec_Put.mono _ _ _ _ _)
      | (with_reducible exact LeO.refl _)
      | (with_reducible exact LeO.none _)
      | (with_reducible refine LeO.ite ?_ ?_)
      | (with_reducible refine LeO.bind ?_ (fun _ => ?_))
      | exact ih0 _ _ _ _ _ _ _ _ _
      | exact impl_Get.mono _ _ _ _
      | exact impl_Put.mono _ _ _ _ _
      | exact spec_DrawPut.mono _ _
      | exact spec_Get.mono _ _ _ _
      | exact spec_Put.mono _ _ _ _ _
      | exact LeO.none _
      | refine LeO.ite ?_ ?_
      | refine LeO.bind ?_ (fun _ => ?_)
theorem laws_FnGet.mono : ∀ a0 k, LeO (laws_FnGet.f k a0) (laws_FnGet.f (k + 1) a0) := by
  intro a0 k
  have ih0 := laws_FnGet.mono_l k
  unfold laws_FnGet.f
  repeat' first
      | (with_reducible exact ih0 _ _ _ _ _ _ _ _ _)
      | (with_reducible exact impl_Get.mono _ _ _ _)
      | (with_reducible exact impl_Put.mono _ _ _ _ _)
      | (with_reducible exact spec_DrawPut.mono _ _)
      | (with_reducible exact spec_Get.mono _ _ _ _)
      | (with_reducible exact spec_Put.mono _ _ _ _ _)
      | (with_reducible exact LeO.refl _)
      | (with_reducible exact LeO.none _)
      | (with_reducible refine LeO.ite ?_ ?_)
      | (with_reducible refine LeO.bind ?_ (fun _ => ?_))
      | exact ih0 _ _ _ _ _ _ _ _ _
      | exact impl_Get.mono _ _ _ _
      | exact impl_Put.mono _ _ _ _ _
      | exact spec_DrawPut.mono _ _
      | exact spec_Get.mono _ _ _ _
      | exact spec_Put.mono _ _ _ _ _
      | exact LeO.none _
      | refine LeO.ite ?_ ?_
      | refine LeO.bind ?_ (fun _ => ?_)
set_option maxHeartbeats 8000000 in
set_option maxRecDepth 100000 in
theorem laws_FnGet.calls (k : Nat) (A0 : Option Addr) (c0 : Nat) (l0 : List Int) (r : Bool) (w : World) (hr0 : Kd.C (Kd.int .u8) w A0 l0.length l0) (hc0 : l0.length ≤ c0) (h : laws_FnGet.f k l0 = some r) :
    Calls Try.prog 6 #[.slice A0 l0.length c0] w fun e w' => e = .returned (.bool r) ∧ Below w.heap.size w w' := by
  have HR0 := Aside0.mk hr0
  have HC0 := Aside0.mk hc0
  clear hr0 hc0
  have HB := Aside0.mk (Below.refl w.heap.size w)
  have H : (if (l0.length : Int) > 1048576 then (some true) else ((spec_DrawPut.f k l0).bind fun bt281 => ((impl_Put.f k bt281.1 bt281.2.1 bt281.2.2.1 bt281.2.2.2).bind fun bt285 => ((spec_Put.f k bt281.1 bt281.2.1 bt281.2.2.1 bt281.2.2.2).bind fun bt287 => (if bt285.1.toList = bt287.1.toList then (if (bt285.2 != bt287.2) = true then (laws_FnGet.j0 k bt281.1 bt281.2.1 bt281.2.2.1 bt281.2.2.2 bt285.1 bt285.2 bt287.1 bt287.2 true) else ((impl_Get.f k bt281.1 bt281.2.1 bt281.2.2.1).bind fun t289 => ((spec_Get.f k bt281.1 bt281.2.1 bt281.2.2.1).bind fun t290 => (if t289 = t290 then (laws_FnGet.j0 k bt281.1 bt281.2.1 bt281.2.2.1 bt281.2.2.2 bt285.1 bt285.2 bt287.1 bt287.2 (!bt285.2)) else (laws_FnGet.j0 k bt281.1 bt281.2.1 bt281.2.2.1 bt281.2.2.2 bt285.1 bt285.2 bt287.1 bt287.2 true))))) else (laws_FnGet.j0 k bt281.1 bt281.2.1 bt281.2.2.1 bt281.2.2.2 bt285.1 bt285.2 bt287.1 bt287.2 true)))))) = some r := h
  clear h
  by_cases c2 : (l0.length : Int) > 1048576
  · rw [if_pos c2] at H
    have c2b0 : decide (1048576 < (l0.length : Int)) = true := decide_eq_true c2
    have c2b1 : decide (1048576 < l0.length) = true := decide_eq_true (by omega)
    clear c2
    obtain rfl := Option.some.inj H
    go_enter Try.func6, Try.ntmps6
    go_wp2
    go_ret
    exact ⟨by first | rfl | (simp [errW_none, errW_some] <;> rfl) | (simp [*, errW_none, errW_some] <;> rfl), by repeat (first | (with_reducible first | exact HB.out | apply below_alloc | apply pw_below_drewN | apply below_drew1) | exact HB.out)⟩
  · rw [if_neg c2] at H
    have c2b0 : decide (1048576 < (l0.length : Int)) = false := decide_eq_false c2
    have c2b1 : decide (1048576 < l0.length) = false := decide_eq_false (by omega)
    clear c2
    replace H := Option.bind_eq_some_iff.mp H
    obtain ⟨⟨t281, t282, t283, t284⟩, A30, H⟩ := H
    replace H : ((impl_Put.f k t281 t282 t283 t284).bind fun bt285 => ((spec_Put.f k t281 t282 t283 t284).bind fun bt287 => (if bt285.1.toList = bt287.1.toList then (if (bt285.2 != bt287.2) = true then (laws_FnGet.j0 k t281 t282 t283 t284 bt285.1 bt285.2 bt287.1 bt287.2 true) else ((impl_Get.f k t281 t282 t283).bind fun t289 => ((spec_Get.f k t281 t282 t283).bind fun t290 => (if t289 = t290 then (laws_FnGet.j0 k t281 t282 t283 t284 bt285.1 bt285.2 bt287.1 bt287.2 (!bt285.2)) else (laws_FnGet.j0 k t281 t282 t283 t284 bt285.1 bt285.2 bt287.1 bt287.2 true))))) else (laws_FnGet.j0 k t281 t282 t283 t284 bt285.1 bt285.2 bt287.1 bt287.2 true)))) = some r := H
    have A3 := Aside0.mk A30
    clear A30
    replace H := Option.bind_eq_some_iff.mp H
    obtain ⟨⟨t285, t286⟩, A40, H⟩ := H
    replace H : ((spec_Put.f k t281 t282 t283 t284).bind fun bt287 => (if t285.toList = bt287.1.toList then (if (t286 != bt287.2) = true then (laws_FnGet.j0 k t281 t282 t283 t284 t285 t286 bt287.1 bt287.2 true) else ((impl_Get.f k t281 t282 t283).bind fun t289 => ((spec_Get.f k t281 t282 t283).bind fun t290 => (if t289 = t290 then (laws_FnGet.j0 k t281 t282 t283 t284 t285 t286 bt287.1 bt287.2 (!t286)) else (laws_FnGet.j0 k t281 t282 t283 t284 t285 t286 bt287.1 bt287.2 true))))) else (laws_FnGet.j0 k t281 t282 t283 t284 t285 t286 bt287.1 bt287.2 true))) = some r := H
    have A4 := Aside0.mk A40
    clear A40
    replace H := Option.bind_eq_some_iff.mp H
    obtain ⟨⟨t287, t288⟩, A50, H⟩ := H
    replace H : (if t285.toList = t287.toList then (if (t286 != t288) = true then (laws_FnGet.j0 k t281 t282 t283 t284 t285 t286 t287 t288 true) else ((impl_Get.f k t281 t282 t283).bind fun t289 => ((spec_Get.f k t281 t282 t283).bind fun t290 => (if t289 = t290 then (laws_FnGet.j0 k t281 t282 t283 t284 t285 t286 t287 t288 (!t286)) else (laws_FnGet.j0 k t281 t282 t283 t284 t285 t286 t287 t288 true))))) else (laws_FnGet.j0 k t281 t282 t283 t284 t285 t286 t287 t288 true)) = some r := H
    have A5 := Aside0.mk A50
    clear A50
    have HC6 := Aside0.mk H
    clear H
    go_enter Try.func6, Try.ntmps6
    go_upto_region 6 with (first | ((with_reducible refine gate_callee (f := 18) rfl ?_); refine goesL_ (some 18) rfl rfl Try.func18 (by kernel_rfl) rfl #[.slice A0 l0.length c0] rfl (by (try simp only [List.map_toArray, List.map_cons, List.map_nil]); first | done | rfl | (simp only [List.length_drop, List.length_take]; rfl)) ?_; (with_reducible refine (spec_DrawPut.calls k _ _ l0 t281 t282 t283 t284 _ ?side1 ?side2 A3.out).mono ?_); (case side1 => repeat (first | exact HR0.out | (with_reducible refine Kd.C_alloc ?_ _) | (with_reducible refine Kd.C_drewN ?_ _) | (with_reducible refine Kd.C_drew ?_))); (case side2 => exact HC0.out); rintro e w7 ⟨rfl, hb⟩; refine ⟨_, rfl, ?_⟩; have n0_ := Aside0.mk (below_step (by repeat (first | (with_reducible first | exact HB.out | apply below_alloc | apply pw_below_drewN | apply below_drew1) | exact HB.out)) hb); clear HB; have HB := n0_; clear n0_; (try clear hb); (try clear hb2); (try clear hk); (try clear hi)) | ((with_reducible refine gate_callee (f := 19) rfl ?_); refine goesL_ (some 28) rfl rfl Try.func19 (by kernel_rfl) rfl #[.string t281, .int .i64 t282, .int .i64 t283, .int .i64 t284] rfl (by (try simp only [List.map_toArray, List.map_cons, List.map_nil]); first | done | rfl | (simp only [List.length_drop, List.length_take]; rfl)) ?_; (with_reducible refine (impl_Put.calls k t281 t282 t283 t284 t285 t286 _ A4.out).mono ?_); rintro e w8 ⟨rfl, hb⟩; refine ⟨_, rfl, ?_⟩; have n0_ := Aside0.mk (below_step (by repeat (first | (with_reducible first | exact HB.out | apply below_alloc | apply pw_below_drewN | apply below_drew1) | exact HB.out)) hb); clear HB; have HB := n0_; clear n0_; (try clear hb); (try clear hb2); (try clear hk); (try clear hi)) | ((with_reducible refine gate_callee (f := 20) rfl ?_); refine goesL_ (some 36) rfl rfl Try.func20 (by kernel_rfl) rfl #[.string t281, .int .i64 t282, .int .i64 t283, .int .i64 t284] rfl (by (try simp only [List.map_toArray, List.map_cons, List.map_nil]); first | done | rfl | (simp only [List.length_drop, List.length_take]; rfl)) ?_; (with_reducible refine (spec_Put.calls k t281 t282 t283 t284 t287 t288 _ A5.out).mono ?_); rintro e w9 ⟨rfl, hb⟩; refine ⟨_, rfl, ?_⟩; have n0_ := Aside0.mk (below_step (by repeat (first | (with_reducible first | exact HB.out | apply below_alloc | apply pw_below_drewN | apply below_drew1) | exact HB.out)) hb); clear HB; have HB := n0_; clear n0_; (try clear hb); (try clear hb2); (try clear hk); (try clear hi)))
    (try simp only [Act.put, List.setIfInBounds_toArray, List.set_cons_zero, List.set_cons_succ])
    go_cut [61] (fun v61 wc => ∃ (kq : Nat) (x61_5 : Bool), v61 = .bool x61_5 ∧ Aside0 (laws_FnGet.j0 kq t281 t282 t283 t284 t285 t286 t287 t288 x61_5 = some r) ∧ Aside0 (kq ≤ k) ∧ Aside0 (Below w.heap.size w wc))
    case first =>
      have H := HC6.out
      clear HC6
      by_cases c10 : t285.toList = t287.toList
      · rw [if_pos c10] at H
        have c10b0 : (t285.toList == t287.toList) = true := beq_iff_eq.mpr c10
        have c10b1 : (t285.toList != t287.toList) = false := bne_eq_false_iff_eq.mpr c10
        clear c10
        (first | rw [c10b0] | (simp only [i64_w, i32_w]; rw [c10b0]) | skip)
        by_cases c11 : (t286 != t288) = true
        · rw [if_pos c11] at H
          have c11b0 : (t286 != t288) = true := c11
          (try (have c11b1 : decide (t286 = t288) = false := by simpa using c11))
          (try (have c11b2 : (t286 == t288) = false := by simpa using c11))
          (try (have c11b3 : ¬ (t286 = t288) := by simpa using c11))
          clear c11
          have H' := Aside0.mk H
          clear H
          go_wp2
          go_meet
          case rel => exact ⟨_, (true), (by first | rfl | (simp; done) | (simp [*]; done)), H', ⟨by first | omega | exact Nat.le_refl _⟩, ⟨by repeat (first | (with_reducible first | exact HB.out | apply below_alloc | apply pw_below_drewN | apply below_drew1) | exact HB.out)⟩⟩
        · rw [if_neg c11] at H
          have c11b0 : (t286 != t288) = false := by simpa using c11
          (try (have c11b1 : decide (t286 = t288) = true := by simpa using c11))
          (try (have c11b2 : (t286 == t288) = true := by simpa using c11))
          clear c11
          replace H := Option.bind_eq_some_iff.mp H
          obtain ⟨t289, A120, H⟩ := H
          replace H : ((spec_Get.f k t281 t282 t283).bind fun t290 => (if t289 = t290 then (laws_FnGet.j0 k t281 t282 t283 t284 t285 t286 t287 t288 (!t286)) else (laws_FnGet.j0 k t281 t282 t283 t284 t285 t286 t287 t288 true))) = some r := H
          have A12 := Aside0.mk A120
          clear A120
          replace H := Option.bind_eq_some_iff.mp H
          obtain ⟨t290, A130, H⟩ := H
          replace H : (if t289 = t290 then (laws_FnGet.j0 k t281 t282 t283 t284 t285 t286 t287 t288 (!t286)) else (laws_FnGet.j0 k t281 t282 t283 t284 t285 t286 t287 t288 true)) = some r := H
          have A13 := Aside0.mk A130
          clear A130
          by_cases c14 : t289 = t290
          · rw [if_pos c14] at H
            have c14b0 : (t289 == t290) = true := beq_iff_eq.mpr c14
            have c14b1 : (t289 != t290) = false := bne_eq_false_iff_eq.mpr c14
            clear c14
            have H' := Aside0.mk H
            clear H
            go_wp2_with (first | (go_at_call 16; (with_reducible refine (impl_Get.calls k t281 t282 t283 t289 _ A12.out).mono ?_); rintro e w' ⟨rfl, ⟨nd, rfl⟩⟩) | (go_at_call 17; (with_reducible refine (spec_Get.calls k t281 t282 t283 t290 _ A13.out).mono ?_); rintro e w' ⟨rfl, ⟨nd, rfl⟩⟩))
            go_meet
            case rel => exact ⟨_, (!t286), (by first | rfl | (simp; done) | (simp [*]; done)), H', ⟨by first | omega | exact Nat.le_refl _⟩, ⟨by repeat (first | (with_reducible first | exact HB.out | apply below_alloc | apply pw_below_drewN | apply below_drew1) | exact HB.out)⟩⟩
          · rw [if_neg c14] at H
            have c14b0 : (t289 == t290) = false := beq_eq_false_iff_ne.mpr c14
            have c14b1 : (t289 != t290) = true := bne_iff_ne.mpr c14
            have H' := Aside0.mk H
            clear H
            go_wp2_with (first | (go_at_call 16; (with_reducible refine (impl_Get.calls k t281 t282 t283 t289 _ A12.out).mono ?_); rintro e w' ⟨rfl, ⟨nd, rfl⟩⟩) | (go_at_call 17; (with_reducible refine (spec_Get.calls k t281 t282 t283 t290 _ A13.out).mono ?_); rintro e w' ⟨rfl, ⟨nd, rfl⟩⟩))
            go_meet
            case rel => exact ⟨_, (true), (by first | rfl | (simp; done) | (simp [*]; done)), H', ⟨by first | omega | exact Nat.le_refl _⟩, ⟨by repeat (first | (with_reducible first | exact HB.out | apply below_alloc | apply pw_below_drewN | apply below_drew1) | exact HB.out)⟩⟩
      · rw [if_neg c10] at H
        have c10b0 : (t285.toList == t287.toList) = false := beq_eq_false_iff_ne.mpr c10
        have c10b1 : (t285.toList != t287.toList) = true := bne_iff_ne.mpr c10
        (first | rw [c10b0] | (simp only [i64_w, i32_w]; rw [c10b0]) | skip)
        have H' := Aside0.mk H
        clear H
        go_wp2
        go_meet
        case rel => exact ⟨_, (true), (by first | rfl | (simp; done) | (simp [*]; done)), H', ⟨by first | omega | exact Nat.le_refl _⟩, ⟨by repeat (first | (with_reducible first | exact HB.out | apply below_alloc | apply pw_below_drewN | apply below_drew1) | exact HB.out)⟩⟩
    case rest =>
      clear HC6
      try clear c1
      try clear c2
      try clear c2b0
      try clear c2b1
      try clear p2
      try clear c6
      try clear c10
      try clear c10b0
      try clear c10b1
      try clear c11
      try clear c11b0
      try clear c11b1
      try clear c11b2
      try clear c14
      try clear c14b0
      try clear c14b1
      obtain ⟨kq, x61_5, rfl, HA, HJ5, HB⟩ := hcut
      cases kq with
      | zero => exact absurd HA.out (by simp [laws_FnGet.j0])
      | succ kj5 =>
        have H := HA.out
        clear HA
        simp only [laws_FnGet.j0] at H
        by_cases c15 : x61_5 = true
        · subst c15
          have H1 : (if t285.toList = t287.toList then (if (t286 == t288) = true then ((impl_Get.f kj5 t281 t282 t283).bind fun t291 => ((spec_Get.f kj5 t281 t282 t283).bind fun t292 => (some (t291 == t292)))) else (some false)) else (some false)) = some r := by rw [if_pos rfl] at H; exact H
          clear H
          have H := H1
          clear H1
          by_cases c16 : t285.toList = t287.toList
          · rw [if_pos c16] at H
            have c16b0 : (t285.toList == t287.toList) = true := beq_iff_eq.mpr c16
            have c16b1 : (t285.toList != t287.toList) = false := bne_eq_false_iff_eq.mpr c16
            clear c16
            by_cases c17 : (t286 == t288) = true
            · rw [if_pos c17] at H
              have c17b0 : (t286 == t288) = true := c17
              (try (have c17b1 : decide (t286 = t288) = true := by simpa using c17))
              (try (have c17b2 : (t286 == t288) = true := by simpa using c17))
              clear c17
              replace H := Option.bind_eq_some_iff.mp H
              obtain ⟨t291, A180, H⟩ := H
              replace H : ((spec_Get.f kj5 t281 t282 t283).bind fun t292 => (some (t291 == t292))) = some r := H
              have A18 := Aside0.mk A180
              clear A180
              replace H := Option.bind_eq_some_iff.mp H
              obtain ⟨t292, A190, H⟩ := H
              replace H : (some (t291 == t292)) = some r := H
              have A19 := Aside0.mk A190
              clear A190
              obtain rfl := Option.some.inj H
              go_wp2_with (first | (go_at_call 16; (with_reducible refine (impl_Get.calls kj5 t281 t282 t283 t291 _ A18.out).mono ?_); rintro e w' ⟨rfl, ⟨nd, rfl⟩⟩) | (go_at_call 17; (with_reducible refine (spec_Get.calls kj5 t281 t282 t283 t292 _ A19.out).mono ?_); rintro e w' ⟨rfl, ⟨nd, rfl⟩⟩))
              go_ret
              exact ⟨by first | rfl | (simp [errW_none, errW_some] <;> rfl) | (simp [*, errW_none, errW_some] <;> rfl), by repeat (first | (with_reducible first | exact HB.out | apply below_alloc | apply pw_below_drewN | apply below_drew1) | exact HB.out)⟩
            · rw [if_neg c17] at H
              have c17b0 : (t286 == t288) = false := by simpa using c17
              (try (have c17b1 : decide (t286 = t288) = false := by simpa using c17))
              (try (have c17b2 : (t286 == t288) = false := by simpa using c17))
              (try (have c17b3 : ¬ (t286 = t288) := by simpa using c17))
              clear c17
              obtain rfl := Option.some.inj H
              go_wp2
              go_ret
              exact ⟨by first | rfl | (simp [errW_none, errW_some] <;> rfl) | (simp [*, errW_none, errW_some] <;> rfl), by repeat (first | (with_reducible first | exact HB.out | apply below_alloc | apply pw_below_drewN | apply below_drew1) | exact HB.out)⟩
          · rw [if_neg c16] at H
            have c16b0 : (t285.toList == t287.toList) = false := beq_eq_false_iff_ne.mpr c16
            have c16b1 : (t285.toList != t287.toList) = true := bne_iff_ne.mpr c16
            obtain rfl := Option.some.inj H
            go_wp2
            go_ret
            exact ⟨by first | rfl | (simp [errW_none, errW_some] <;> rfl) | (simp [*, errW_none, errW_some] <;> rfl), by repeat (first | (with_reducible first | exact HB.out | apply below_alloc | apply pw_below_drewN | apply below_drew1) | exact HB.out)⟩
        · replace c15 := Bool.eq_false_iff.mpr c15
          subst c15
          have H1 : ((impl_Get.f kj5 t281 t282 t283).bind fun t293 => ((impl_Put.f kj5 t285 t282 t283 t293).bind fun bt294 => ((impl_Get.f kj5 t285 t282 t283).bind fun t296 => (if t296 = t284 then (if bt294.2 = true then (if bt294.1.toList = t281.toList then (some ((t285.size : Int) == (t281.size : Int))) else (some false)) else (some false)) else (some false))))) = some r := by rw [if_neg (show ¬ (false = true) by decide)] at H; exact H
          clear H
          have H := H1
          clear H1
          replace H := Option.bind_eq_some_iff.mp H
          obtain ⟨t293, A200, H⟩ := H
          replace H : ((impl_Put.f kj5 t285 t282 t283 t293).bind fun bt294 => ((impl_Get.f kj5 t285 t282 t283).bind fun t296 => (if t296 = t284 then (if bt294.2 = true then (if bt294.1.toList = t281.toList then (some ((t285.size : Int) == (t281.size : Int))) else (some false)) else (some false)) else (some false)))) = some r := H
          have A20 := Aside0.mk A200
          clear A200
          replace H := Option.bind_eq_some_iff.mp H
          obtain ⟨⟨t294, t295⟩, A210, H⟩ := H
          replace H : ((impl_Get.f kj5 t285 t282 t283).bind fun t296 => (if t296 = t284 then (if t295 = true then (if t294.toList = t281.toList then (some ((t285.size : Int) == (t281.size : Int))) else (some false)) else (some false)) else (some false))) = some r := H
          have A21 := Aside0.mk A210
          clear A210
          replace H := Option.bind_eq_some_iff.mp H
          obtain ⟨t296, A220, H⟩ := H
          replace H : (if t296 = t284 then (if t295 = true then (if t294.toList = t281.toList then (some ((t285.size : Int) == (t281.size : Int))) else (some false)) else (some false)) else (some false)) = some r := H
          have A22 := Aside0.mk A220
          clear A220
          by_cases c23 : t296 = t284
          · rw [if_pos c23] at H
            have c23b0 : (t296 == t284) = true := beq_iff_eq.mpr c23
            have c23b1 : (t296 != t284) = false := bne_eq_false_iff_eq.mpr c23
            clear c23
            by_cases c24 : t295 = true
            · subst c24
              have H1 : (if t294.toList = t281.toList then (some ((t285.size : Int) == (t281.size : Int))) else (some false)) = some r := by rw [if_pos rfl] at H; exact H
              clear H
              have H := H1
              clear H1
              by_cases c25 : t294.toList = t281.toList
              · rw [if_pos c25] at H
                have c25b0 : (t294.toList == t281.toList) = true := beq_iff_eq.mpr c25
                have c25b1 : (t294.toList != t281.toList) = false := bne_eq_false_iff_eq.mpr c25
                clear c25
                obtain rfl := Option.some.inj H
                go_wp2_with (first | ((with_reducible refine gate_callee (f := 16) rfl ?_); refine goesL_ (some 88) rfl rfl Try.func16 (by kernel_rfl) rfl #[.string t281, .int .i64 t282, .int .i64 t283] rfl (by (try simp only [List.map_toArray, List.map_cons, List.map_nil]); first | done | rfl | (simp only [List.length_drop, List.length_take]; rfl)) ?_; (with_reducible refine (impl_Get.calls kj5 t281 t282 t283 t293 _ A20.out).mono ?_); rintro e w' ⟨rfl, ⟨nd, rfl⟩⟩; refine ⟨_, rfl, ?_⟩) | ((with_reducible refine gate_callee (f := 19) rfl ?_); refine goesL_ (some 89) rfl rfl Try.func19 (by kernel_rfl) rfl #[.string t285, .int .i64 t282, .int .i64 t283, .int .i64 t293] rfl (by (try simp only [List.map_toArray, List.map_cons, List.map_nil]); first | done | rfl | (simp only [List.length_drop, List.length_take]; rfl)) ?_; (with_reducible refine (impl_Put.calls kj5 t285 t282 t283 t293 t294 true _ A21.out).mono ?_); rintro e w26 ⟨rfl, hb⟩; refine ⟨_, rfl, ?_⟩; have n0_ := Aside0.mk (below_step (by repeat (first | (with_reducible first | exact HB.out | apply below_alloc | apply pw_below_drewN | apply below_drew1) | exact HB.out)) hb); clear HB; have HB := n0_; clear n0_; (try clear hb); (try clear hb2); (try clear hk); (try clear hi)) | ((with_reducible refine gate_callee (f := 16) rfl ?_); refine goesL_ (some 95) rfl rfl Try.func16 (by kernel_rfl) rfl #[.string t285, .int .i64 t282, .int .i64 t283] rfl (by (try simp only [List.map_toArray, List.map_cons, List.map_nil]); first | done | rfl | (simp only [List.length_drop, List.length_take]; rfl)) ?_; (with_reducible refine (impl_Get.calls kj5 t285 t282 t283 t296 _ A22.out).mono ?_); rintro e w' ⟨rfl, ⟨nd, rfl⟩⟩; refine ⟨_, rfl, ?_⟩))
                go_ret
                exact ⟨by first | rfl | (simp [errW_none, errW_some] <;> rfl) | (simp [*, errW_none, errW_some] <;> rfl), by repeat (first | (with_reducible first | exact HB.out | apply below_alloc | apply pw_below_drewN | apply below_drew1) | exact HB.out)⟩
              · rw [if_neg c25] at H
                have c25b0 : (t294.toList == t281.toList) = false := beq_eq_false_iff_ne.mpr c25
                have c25b1 : (t294.toList != t281.toList) = true := bne_iff_ne.mpr c25
                obtain rfl := Option.some.inj H
                go_wp2_with (first | ((with_reducible refine gate_callee (f := 16) rfl ?_); refine goesL_ (some 88) rfl rfl Try.func16 (by kernel_rfl) rfl #[.string t281, .int .i64 t282, .int .i64 t283] rfl (by (try simp only [List.map_toArray, List.map_cons, List.map_nil]); first | done | rfl | (simp only [List.length_drop, List.length_take]; rfl)) ?_; (with_reducible refine (impl_Get.calls kj5 t281 t282 t283 t293 _ A20.out).mono ?_); rintro e w' ⟨rfl, ⟨nd, rfl⟩⟩; refine ⟨_, rfl, ?_⟩) | ((with_reducible refine gate_callee (f := 19) rfl ?_); refine goesL_ (some 89) rfl rfl Try.func19 (by kernel_rfl) rfl #[.string t285, .int .i64 t282, .int .i64 t283, .int .i64 t293] rfl (by (try simp only [List.map_toArray, List.map_cons, List.map_nil]); first | done | rfl | (simp only [List.length_drop, List.length_take]; rfl)) ?_; (with_reducible refine (impl_Put.calls kj5 t285 t282 t283 t293 t294 true _ A21.out).mono ?_); rintro e w27 ⟨rfl, hb⟩; refine ⟨_, rfl, ?_⟩; have n0_ := Aside0.mk (below_step (by repeat (first | (with_reducible first | exact HB.out | apply below_alloc | apply pw_below_drewN | apply below_drew1) | exact HB.out)) hb); clear HB; have HB := n0_; clear n0_; (try clear hb); (try clear hb2); (try clear hk); (try clear hi)) | ((with_reducible refine gate_callee (f := 16) rfl ?_); refine goesL_ (some 95) rfl rfl Try.func16 (by kernel_rfl) rfl #[.string t285, .int .i64 t282, .int .i64 t283] rfl (by (try simp only [List.map_toArray, List.map_cons, List.map_nil]); first | done | rfl | (simp only [List.length_drop, List.length_take]; rfl)) ?_; (with_reducible refine (impl_Get.calls kj5 t285 t282 t283 t296 _ A22.out).mono ?_); rintro e w' ⟨rfl, ⟨nd, rfl⟩⟩; refine ⟨_, rfl, ?_⟩))
                go_ret
                exact ⟨by first | rfl | (simp [errW_none, errW_some] <;> rfl) | (simp [*, errW_none, errW_some] <;> rfl), by repeat (first | (with_reducible first | exact HB.out | apply below_alloc | apply pw_below_drewN | apply below_drew1) | exact HB.out)⟩
            · replace c24 := Bool.eq_false_iff.mpr c24
              subst c24
              have H1 : (some false) = some r := by rw [if_neg (show ¬ (false = true) by decide)] at H; exact H
              clear H
              have H := H1
              clear H1
              obtain rfl := Option.some.inj H
              go_wp2_with (first | ((with_reducible refine gate_callee (f := 16) rfl ?_); refine goesL_ (some 88) rfl rfl Try.func16 (by kernel_rfl) rfl #[.string t281, .int .i64 t282, .int .i64 t283] rfl (by (try simp only [List.map_toArray, List.map_cons, List.map_nil]); first | done | rfl | (simp only [List.length_drop, List.length_take]; rfl)) ?_; (with_reducible refine (impl_Get.calls kj5 t281 t282 t283 t293 _ A20.out).mono ?_); rintro e w' ⟨rfl, ⟨nd, rfl⟩⟩; refine ⟨_, rfl, ?_⟩) | ((with_reducible refine gate_callee (f := 19) rfl ?_); refine goesL_ (some 89) rfl rfl Try.func19 (by kernel_rfl) rfl #[.string t285, .int .i64 t282, .int .i64 t283, .int .i64 t293] rfl (by (try simp only [List.map_toArray, List.map_cons, List.map_nil]); first | done | rfl | (simp only [List.length_drop, List.length_take]; rfl)) ?_; (with_reducible refine (impl_Put.calls kj5 t285 t282 t283 t293 t294 false _ A21.out).mono ?_); rintro e w28 ⟨rfl, hb⟩; refine ⟨_, rfl, ?_⟩; have n0_ := Aside0.mk (below_step (by repeat (first | (with_reducible first | exact HB.out | apply below_alloc | apply pw_below_drewN | apply below_drew1) | exact HB.out)) hb); clear HB; have HB := n0_; clear n0_; (try clear hb); (try clear hb2); (try clear hk); (try clear hi)) | ((with_reducible refine gate_callee (f := 16) rfl ?_); refine goesL_ (some 95) rfl rfl Try.func16 (by kernel_rfl) rfl #[.string t285, .int .i64 t282, .int .i64 t283] rfl (by (try simp only [List.map_toArray, List.map_cons, List.map_nil]); first | done | rfl | (simp only [List.length_drop, List.length_take]; rfl)) ?_; (with_reducible refine (impl_Get.calls kj5 t285 t282 t283 t296 _ A22.out).mono ?_); rintro e w' ⟨rfl, ⟨nd, rfl⟩⟩; refine ⟨_, rfl, ?_⟩))
              go_ret
              exact ⟨by first | rfl | (simp [errW_none, errW_some] <;> rfl) | (simp [*, errW_none, errW_some] <;> rfl), by repeat (first | (with_reducible first | exact HB.out | apply below_alloc | apply pw_below_drewN | apply below_drew1) | exact HB.out)⟩
          · rw [if_neg c23] at H
            have c23b0 : (t296 == t284) = false := beq_eq_false_iff_ne.mpr c23
            have c23b1 : (t296 != t284) = true := bne_iff_ne.mpr c23
            obtain rfl := Option.some.inj H
            go_wp2_with (first | ((with_reducible refine gate_callee (f := 16) rfl ?_); refine goesL_ (some 88) rfl rfl Try.func16 (by kernel_rfl) rfl #[.string t281, .int .i64 t282, .int .i64 t283] rfl (by (try simp only [List.map_toArray, List.map_cons, List.map_nil]); first | done | rfl | (simp only [List.length_drop, List.length_take]; rfl)) ?_; (with_reducible refine (impl_Get.calls kj5 t281 t282 t283 t293 _ A20.out).mono ?_); rintro e w' ⟨rfl, ⟨nd, rfl⟩⟩; refine ⟨_, rfl, ?_⟩) | ((with_reducible refine gate_callee (f := 19) rfl ?_); refine goesL_ (some 89) rfl rfl Try.func19 (by kernel_rfl) rfl #[.string t285, .int .i64 t282, .int .i64 t283, .int .i64 t293] rfl (by (try simp only [List.map_toArray, List.map_cons, List.map_nil]); first | done | rfl | (simp only [List.length_drop, List.length_take]; rfl)) ?_; (with_reducible refine (impl_Put.calls kj5 t285 t282 t283 t293 t294 t295 _ A21.out).mono ?_); rintro e w29 ⟨rfl, hb⟩; refine ⟨_, rfl, ?_⟩; have n0_ := Aside0.mk (below_step (by repeat (first | (with_reducible first | exact HB.out | apply below_alloc | apply pw_below_drewN | apply below_drew1) | exact HB.out)) hb); clear HB; have HB := n0_; clear n0_; (try clear hb); (try clear hb2); (try clear hk); (try clear hi)) | ((with_reducible refine gate_callee (f := 16) rfl ?_); refine goesL_ (some 95) rfl rfl Try.func16 (by kernel_rfl) rfl #[.string t285, .int .i64 t282, .int .i64 t283] rfl (by (try simp only [List.map_toArray, List.map_cons, List.map_nil]); first | done | rfl | (simp only [List.length_drop, List.length_take]; rfl)) ?_; (with_reducible refine (impl_Get.calls kj5 t285 t282 t283 t296 _ A22.out).mono ?_); rintro e w' ⟨rfl, ⟨nd, rfl⟩⟩; refine ⟨_, rfl, ?_⟩))
            go_ret
            exact ⟨by first | rfl | (simp [errW_none, errW_some] <;> rfl) | (simp [*, errW_none, errW_some] <;> rfl), by repeat (first | (with_reducible first | exact HB.out | apply below_alloc | apply pw_below_drewN | apply below_drew1) | exact HB.out)⟩

/-- THE ONE PURE STATEMENT of laws_FnGet: yours. -/
def laws_FnGet.Pure : Prop := ∀ (l0 : List Int), l0.length ≤ maxLen → l0.length * 1 ≤ 140737488351232 → (∀ x ∈ l0, (Lit.int .u8 x).wf = true) → ∃ k, laws_FnGet.f k l0 = some true
theorem laws_FnGet.walk (P : laws_FnGet.Pure) (a0 : Option Addr) (len0 cap0 : Nat) (z0 : List Int) (w : World) (w0 : (a0 = none ∧ len0 = 0 ∧ cap0 = 0 ∧ z0 = []) ∨ ∃ x, a0 = some x ∧ len0 ≤ cap0 ∧ cap0 ≤ maxLen ∧ z0.length = cap0 ∧ (∀ i, i < z0.length → w.cell? (x.add i) = some (.int .u8 (z0.getD i 0))) ∧ ∀ n ∈ z0, (Lit.int .u8 n).wf = true) (y0 : len0 * 1 ≤ 140737488351232) :
    Calls Try.prog 6 #[.slice a0 len0 cap0] w fun e w' => e = .returned (.bool true) ∧ Below w.heap.size w w' := by
  obtain ⟨l0, rfl, hr0, hm0, hw0, hc0⟩ := ReadsInt.ofRowC w0
  obtain ⟨k, h⟩ := P l0 hm0 y0 hw0
  refine (laws_FnGet.calls k _ _ l0 true w (Kd.C_of_reads (d := (0 : Int)) (h1 := fun _ => rfl) hr0) hc0 h).mono ?_
  rintro e w' ⟨rfl, hd⟩
  exact ⟨rfl, hd⟩

end Go.Proofs.Ytfeodfgjpjddhaa.P
