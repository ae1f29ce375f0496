-- PRINTED by print.py (a twelfth state) out of the translation. Not trusted: Lean checks it.
import Derived.Test.YtfeodfgjpjddhaaPx0
import Derived.Test.YtfeodfgjpjddhaaPx13
import Derived.Test.YtfeodfgjpjddhaaPx25
import Derived.Test.YtfeodfgjpjddhaaPx27
import Derived.Test.YtfeodfgjpjddhaaPx28
import Derived.Test.YtfeodfgjpjddhaaPx29
import Derived.Test.YtfeodfgjpjddhaaPx30
namespace Go.Proofs.Ytfeodfgjpjddhaa.P
open Go.RowKit Go.Proofs.YtfeodfgjpjddhaaW.PrintWords Go.Proofs.YtfeodfgjpjddhaaW.PrintLast Go.Proofs.YtfeodfgjpjddhaaW.PrintMore
attribute [local go_sem] max2_int min2_int max_two min_two max_three min_three max_four min_four   -- for this text's walks alone
set_option linter.unusedVariables false
set_option linter.unusedSimpArgs false

/-! ### laws_FnBit: function 5 -/
mutual
def laws_FnBit.j0 : Nat → ByteArray → Int → Int → ByteArray → Bool → ByteArray → Bool → Bool → Option (Bool)
  | 0, _, _, _, _, _, _, _, _ => none
  | k + 1, x3, x4, x5, x6, x7, x8, x9, x57 => if x57 = true then (if x6.toList = x8.toList then (if (x7 == x9) = true then ((impl_BitGet.f x3 x4).bind fun t273 => ((spec_BitGet.f x3 x4).bind fun t274 => (some (t273 == t274)))) else (some false)) else (some false)) else (laws_FnBit.l0 k x3 x4 x5 x6 0 7)
def laws_FnBit.l0 : Nat → ByteArray → Int → Int → ByteArray → Int → Int → Option (Bool)
  | 0, _, _, _, _, _, _ => none
  | k + 1, x3, x4, x5, x6, x10, x11 => if x11 ≥ 0 then ((impl_BitGet.f x6 (wrap64 ((wrap64 ((wrap64 (Int.tdiv x4 8)) * 8)) + x11))).bind fun t275 => (laws_FnBit.l0 k x3 x4 x5 x6 (wrap64 ((wrap64 (2 * x10)) + t275)) (wrap64 (x11 - 1)))) else ((impl_BitGet.f x3 x4).bind fun t276 => ((impl_BitPut.f x6 x4 t276).bind fun bt277 => ((impl_BitGet.f x6 x4).bind fun t279 => (if t279 = x5 then ((impl_Get.f k x6 (wrap64 (Int.tdiv x4 8)) 1).bind fun t280 => (if x10 = t280 then (if bt277.2 = true then (some (bt277.1.toList == x3.toList)) else (some false)) else (some false))) else (some false)))))
end
def laws_FnBit.f (k : Nat) (l0 : List Int) : Option (Bool) := if (l0.length : Int) > 1048576 then (some true) else ((spec_DrawBitPut.f k l0).bind fun bt264 => ((impl_BitPut.f bt264.1 bt264.2.1 bt264.2.2).bind fun bt267 => ((spec_BitPut.f bt264.1 bt264.2.1 bt264.2.2).bind fun bt269 => (if bt267.1.toList = bt269.1.toList then (if (bt267.2 != bt269.2) = true then (laws_FnBit.j0 k bt264.1 bt264.2.1 bt264.2.2 bt267.1 bt267.2 bt269.1 bt269.2 true) else ((impl_BitGet.f bt264.1 bt264.2.1).bind fun t271 => ((spec_BitGet.f bt264.1 bt264.2.1).bind fun t272 => (if t271 = t272 then (laws_FnBit.j0 k bt264.1 bt264.2.1 bt264.2.2 bt267.1 bt267.2 bt269.1 bt269.2 (!bt267.2)) else (laws_FnBit.j0 k bt264.1 bt264.2.1 bt264.2.2 bt267.1 bt267.2 bt269.1 bt269.2 true))))) else (laws_FnBit.j0 k bt264.1 bt264.2.1 bt264.2.2 bt267.1 bt267.2 bt269.1 bt269.2 true)))))
theorem laws_FnBit.mono_l : ∀ k, (∀ y0 y1 y2 y3 y4 y5 y6 y7, LeO (laws_FnBit.j0 k y0 y1 y2 y3 y4 y5 y6 y7) (laws_FnBit.j0 (k + 1) y0 y1 y2 y3 y4 y5 y6 y7)) ∧ (∀ y0 y1 y2 y3 y4 y5, LeO (laws_FnBit.l0 k y0 y1 y2 y3 y4 y5) (laws_FnBit.l0 (k + 1) y0 y1 y2 y3 y4 y5))
  | 0 => ⟨fun _ _ _ _ _ _ _ _ r h => by simp [laws_FnBit.j0] at h, fun _ _ _ _ _ _ r h => by simp [laws_FnBit.l0] at h⟩
  | k + 1 => by
    obtain ⟨ih0, ih1⟩ := laws_FnBit.mono_l k
    refine ⟨?_, ?_⟩
    · intro y0 y1 y2 y3 y4 y5 y6 y7
      unfold laws_FnBit.j0
      repeat' first
      | (with_reducible exact ih0 _ _ _ _ _ _ _ _)
      | (with_reducible exact ih1 _ _ _ _ _ _)
      | (with_reducible exact impl_Get.mono _ _ _ _)
      | (with_reducible exact spec_DrawBitPut.mono _ _)
      | (with_reducible exact LeO.refl _)
      | (with_reducible exact LeO.none _)
      | (with_reducible refine LeO.ite ?_ ?_)
      | (with_reducible refine LeO.bind ?_ (fun _ => ?_))
      | exact ih0 _ _ _ _ _ _ _ _
      | exact ih1 _ _ _ _ _ _
      | exact impl_Get.mono _ _ _ _
      | exact spec_DrawBitPut.mono _ _
      | exact LeO.none _
      | refine LeO.ite ?_ ?_
      | refine LeO.bind ?_ (fun _ => ?_)
    · intro y0 y1 y2 y3 y4 y5
      unfold laws_FnBit.l0
      repeat' first
      | (with_reducible exact ih0 _ _ _ _ _ _ _ _)
      | (with_reducible exact ih1 _ _ _ _ _ _)
      | (with_reducible exact impl_Get.mono _ _ _ _)
      | (with_reducible exact spec_DrawBitPut.mono _ _)
      | (with_reducible exact LeO.refl _)
      | (with_reducible exact LeO.none _)
      | (with_reducible refine LeO.ite ?_ ?_)
      | (with_reducible refine LeO.bind ?_ (fun _ => ?_))
      | exact ih0 _ _ _ _ _ _ _ _
      | exact ih1 _ _ _ _ _ _
      | exact impl_Get.mono _ _ _ _
      | exact spec_DrawBitPut.mono _ _
      | exact LeO.none _
      | refine LeO.ite ?_ ?_
      | refine LeO.bind ?_ (fun _ => ?_)
theorem laws_FnBit.mono : ∀ a0 k, LeO (laws_FnBit.f k a0) (laws_FnBit.f (k + 1) a0) := by
  intro a0 k
  obtain ⟨ih0, ih1⟩ := laws_FnBit.mono_l k
  unfold laws_FnBit.f
  repeat' first
      | (with_reducible exact ih0 _ _ _ _ _ _ _ _)
      | (with_reducible exact ih1 _ _ _ _ _ _)
      | (with_reducible exact impl_Get.mono _ _ _ _)
      | (with_reducible exact spec_DrawBitPut.mono _ _)
      | (with_reducible exact LeO.refl _)
      | (with_reducible exact LeO.none _)
      | (with_reducible refine LeO.ite ?_ ?_)
      | (with_reducible refine LeO.bind ?_ (fun _ => ?_))
      | exact ih0 _ _ _ _ _ _ _ _
      | exact ih1 _ _ _ _ _ _
      | exact impl_Get.mono _ _ _ _
      | exact spec_DrawBitPut.mono _ _
      | exact LeO.none _
      | refine LeO.ite ?_ ?_
      | refine LeO.bind ?_ (fun _ => ?_)
set_option maxHeartbeats 8000000 in
set_option maxRecDepth 100000 in
theorem laws_FnBit.calls (k : Nat) (A0 : Option Addr) (c0 : Nat) (l0 : List Int) (r : Bool) (w : World) (hr0 : Kd.C (Kd.int .u8) w A0 l0.length l0) (hc0 : l0.length ≤ c0) (h : laws_FnBit.f k l0 = some r) :
    Calls Try.prog 5 #[.slice A0 l0.length c0] w fun e w' => e = .returned (.bool r) ∧ Below w.heap.size w w' := by
  have HR0 := Aside0.mk hr0
  have HC0 := Aside0.mk hc0
  clear hr0 hc0
  have HB := Aside0.mk (Below.refl w.heap.size w)
  have H : (if (l0.length : Int) > 1048576 then (some true) else ((spec_DrawBitPut.f k l0).bind fun bt264 => ((impl_BitPut.f bt264.1 bt264.2.1 bt264.2.2).bind fun bt267 => ((spec_BitPut.f bt264.1 bt264.2.1 bt264.2.2).bind fun bt269 => (if bt267.1.toList = bt269.1.toList then (if (bt267.2 != bt269.2) = true then (laws_FnBit.j0 k bt264.1 bt264.2.1 bt264.2.2 bt267.1 bt267.2 bt269.1 bt269.2 true) else ((impl_BitGet.f bt264.1 bt264.2.1).bind fun t271 => ((spec_BitGet.f bt264.1 bt264.2.1).bind fun t272 => (if t271 = t272 then (laws_FnBit.j0 k bt264.1 bt264.2.1 bt264.2.2 bt267.1 bt267.2 bt269.1 bt269.2 (!bt267.2)) else (laws_FnBit.j0 k bt264.1 bt264.2.1 bt264.2.2 bt267.1 bt267.2 bt269.1 bt269.2 true))))) else (laws_FnBit.j0 k bt264.1 bt264.2.1 bt264.2.2 bt267.1 bt267.2 bt269.1 bt269.2 true)))))) = some r := h
  clear h
  by_cases c2 : (l0.length : Int) > 1048576
  · rw [if_pos c2] at H
    have c2b0 : decide (1048576 < (l0.length : Int)) = true := decide_eq_true c2
    have c2b1 : decide (1048576 < l0.length) = true := decide_eq_true (by omega)
    clear c2
    obtain rfl := Option.some.inj H
    go_enter Try.func5, Try.ntmps5
    go_wp2
    go_ret
    exact ⟨by first | rfl | (simp [errW_none, errW_some] <;> rfl) | (simp [*, errW_none, errW_some] <;> rfl), by repeat (first | (with_reducible first | exact HB.out | apply below_alloc | apply pw_below_drewN | apply below_drew1) | exact HB.out)⟩
  · rw [if_neg c2] at H
    have c2b0 : decide (1048576 < (l0.length : Int)) = false := decide_eq_false c2
    have c2b1 : decide (1048576 < l0.length) = false := decide_eq_false (by omega)
    clear c2
    replace H := Option.bind_eq_some_iff.mp H
    obtain ⟨⟨t264, t265, t266⟩, A30, H⟩ := H
    replace H : ((impl_BitPut.f t264 t265 t266).bind fun bt267 => ((spec_BitPut.f t264 t265 t266).bind fun bt269 => (if bt267.1.toList = bt269.1.toList then (if (bt267.2 != bt269.2) = true then (laws_FnBit.j0 k t264 t265 t266 bt267.1 bt267.2 bt269.1 bt269.2 true) else ((impl_BitGet.f t264 t265).bind fun t271 => ((spec_BitGet.f t264 t265).bind fun t272 => (if t271 = t272 then (laws_FnBit.j0 k t264 t265 t266 bt267.1 bt267.2 bt269.1 bt269.2 (!bt267.2)) else (laws_FnBit.j0 k t264 t265 t266 bt267.1 bt267.2 bt269.1 bt269.2 true))))) else (laws_FnBit.j0 k t264 t265 t266 bt267.1 bt267.2 bt269.1 bt269.2 true)))) = some r := H
    have A3 := Aside0.mk A30
    clear A30
    replace H := Option.bind_eq_some_iff.mp H
    obtain ⟨⟨t267, t268⟩, A40, H⟩ := H
    replace H : ((spec_BitPut.f t264 t265 t266).bind fun bt269 => (if t267.toList = bt269.1.toList then (if (t268 != bt269.2) = true then (laws_FnBit.j0 k t264 t265 t266 t267 t268 bt269.1 bt269.2 true) else ((impl_BitGet.f t264 t265).bind fun t271 => ((spec_BitGet.f t264 t265).bind fun t272 => (if t271 = t272 then (laws_FnBit.j0 k t264 t265 t266 t267 t268 bt269.1 bt269.2 (!t268)) else (laws_FnBit.j0 k t264 t265 t266 t267 t268 bt269.1 bt269.2 true))))) else (laws_FnBit.j0 k t264 t265 t266 t267 t268 bt269.1 bt269.2 true))) = some r := H
    have A4 := Aside0.mk A40
    clear A40
    replace H := Option.bind_eq_some_iff.mp H
    obtain ⟨⟨t269, t270⟩, A50, H⟩ := H
    replace H : (if t267.toList = t269.toList then (if (t268 != t270) = true then (laws_FnBit.j0 k t264 t265 t266 t267 t268 t269 t270 true) else ((impl_BitGet.f t264 t265).bind fun t271 => ((spec_BitGet.f t264 t265).bind fun t272 => (if t271 = t272 then (laws_FnBit.j0 k t264 t265 t266 t267 t268 t269 t270 (!t268)) else (laws_FnBit.j0 k t264 t265 t266 t267 t268 t269 t270 true))))) else (laws_FnBit.j0 k t264 t265 t266 t267 t268 t269 t270 true)) = some r := H
    have A5 := Aside0.mk A50
    clear A50
    have HC6 := Aside0.mk H
    clear H
    go_enter Try.func5, Try.ntmps5
    go_upto_region 6 with (first | ((with_reducible refine gate_callee (f := 21) rfl ?_); refine goesL_ (some 19) rfl rfl Try.func21 (by kernel_rfl) rfl #[.slice A0 l0.length c0] rfl (by (try simp only [List.map_toArray, List.map_cons, List.map_nil]); first | done | rfl | (simp only [List.length_drop, List.length_take]; rfl)) ?_; (with_reducible refine (spec_DrawBitPut.calls k _ _ l0 t264 t265 t266 _ ?side1 ?side2 A3.out).mono ?_); (case side1 => repeat (first | exact HR0.out | (with_reducible refine Kd.C_alloc ?_ _) | (with_reducible refine Kd.C_drewN ?_ _) | (with_reducible refine Kd.C_drew ?_))); (case side2 => exact HC0.out); rintro e w7 ⟨rfl, hb⟩; refine ⟨_, rfl, ?_⟩; have n0_ := Aside0.mk (below_step (by repeat (first | (with_reducible first | exact HB.out | apply below_alloc | apply pw_below_drewN | apply below_drew1) | exact HB.out)) hb); clear HB; have HB := n0_; clear n0_; (try clear hb); (try clear hb2); (try clear hk); (try clear hi)) | ((with_reducible refine gate_callee (f := 22) rfl ?_); refine goesL_ (some 27) rfl rfl Try.func22 (by kernel_rfl) rfl #[.string t264, .int .i64 t265, .int .i64 t266] rfl (by (try simp only [List.map_toArray, List.map_cons, List.map_nil]); first | done | rfl | (simp only [List.length_drop, List.length_take]; rfl)) ?_; (with_reducible refine (impl_BitPut.calls t264 t265 t266 t267 t268 _ A4.out).mono ?_); rintro e w8 ⟨rfl, hb⟩; refine ⟨_, rfl, ?_⟩; have n0_ := Aside0.mk (below_step (by repeat (first | (with_reducible first | exact HB.out | apply below_alloc | apply pw_below_drewN | apply below_drew1) | exact HB.out)) hb); clear HB; have HB := n0_; clear n0_; (try clear hb); (try clear hb2); (try clear hk); (try clear hi)) | ((with_reducible refine gate_callee (f := 23) rfl ?_); refine goesL_ (some 34) rfl rfl Try.func23 (by kernel_rfl) rfl #[.string t264, .int .i64 t265, .int .i64 t266] rfl (by (try simp only [List.map_toArray, List.map_cons, List.map_nil]); first | done | rfl | (simp only [List.length_drop, List.length_take]; rfl)) ?_; (with_reducible refine (spec_BitPut.calls t264 t265 t266 t269 t270 _ A5.out).mono ?_); rintro e w9 ⟨rfl, hb⟩; refine ⟨_, rfl, ?_⟩; have n0_ := Aside0.mk (below_step (by repeat (first | (with_reducible first | exact HB.out | apply below_alloc | apply pw_below_drewN | apply below_drew1) | exact HB.out)) hb); clear HB; have HB := n0_; clear n0_; (try clear hb); (try clear hb2); (try clear hk); (try clear hi)))
    (try simp only [Act.put, List.setIfInBounds_toArray, List.set_cons_zero, List.set_cons_succ])
    go_cut [57] (fun v57 wc => ∃ (kq : Nat) (x57_5 : Bool), v57 = .bool x57_5 ∧ Aside0 (laws_FnBit.j0 kq t264 t265 t266 t267 t268 t269 t270 x57_5 = some r) ∧ Aside0 (kq ≤ k) ∧ Aside0 (Below w.heap.size w wc))
    case first =>
      have H := HC6.out
      clear HC6
      by_cases c10 : t267.toList = t269.toList
      · rw [if_pos c10] at H
        have c10b0 : (t267.toList == t269.toList) = true := beq_iff_eq.mpr c10
        have c10b1 : (t267.toList != t269.toList) = false := bne_eq_false_iff_eq.mpr c10
        clear c10
        (first | rw [c10b0] | (simp only [i64_w, i32_w]; rw [c10b0]) | skip)
        by_cases c11 : (t268 != t270) = true
        · rw [if_pos c11] at H
          have c11b0 : (t268 != t270) = true := c11
          (try (have c11b1 : decide (t268 = t270) = false := by simpa using c11))
          (try (have c11b2 : (t268 == t270) = false := by simpa using c11))
          (try (have c11b3 : ¬ (t268 = t270) := by simpa using c11))
          clear c11
          have H' := Aside0.mk H
          clear H
          go_wp2
          go_meet
          case rel => exact ⟨_, (true), (by first | rfl | (simp; done) | (simp [*]; done)), H', ⟨by first | omega | exact Nat.le_refl _⟩, ⟨by repeat (first | (with_reducible first | exact HB.out | apply below_alloc | apply pw_below_drewN | apply below_drew1) | exact HB.out)⟩⟩
        · rw [if_neg c11] at H
          have c11b0 : (t268 != t270) = false := by simpa using c11
          (try (have c11b1 : decide (t268 = t270) = true := by simpa using c11))
          (try (have c11b2 : (t268 == t270) = true := by simpa using c11))
          clear c11
          replace H := Option.bind_eq_some_iff.mp H
          obtain ⟨t271, A120, H⟩ := H
          replace H : ((spec_BitGet.f t264 t265).bind fun t272 => (if t271 = t272 then (laws_FnBit.j0 k t264 t265 t266 t267 t268 t269 t270 (!t268)) else (laws_FnBit.j0 k t264 t265 t266 t267 t268 t269 t270 true))) = some r := H
          have A12 := Aside0.mk A120
          clear A120
          replace H := Option.bind_eq_some_iff.mp H
          obtain ⟨t272, A130, H⟩ := H
          replace H : (if t271 = t272 then (laws_FnBit.j0 k t264 t265 t266 t267 t268 t269 t270 (!t268)) else (laws_FnBit.j0 k t264 t265 t266 t267 t268 t269 t270 true)) = some r := H
          have A13 := Aside0.mk A130
          clear A130
          by_cases c14 : t271 = t272
          · rw [if_pos c14] at H
            have c14b0 : (t271 == t272) = true := beq_iff_eq.mpr c14
            have c14b1 : (t271 != t272) = false := bne_eq_false_iff_eq.mpr c14
            clear c14
            have H' := Aside0.mk H
            clear H
            go_wp2_with (first | (go_at_call 24; (with_reducible refine (impl_BitGet.calls t264 t265 t271 _ A12.out).mono ?_); rintro e w' ⟨rfl, ⟨nd, rfl⟩⟩) | (go_at_call 25; (with_reducible refine (spec_BitGet.calls t264 t265 t272 _ A13.out).mono ?_); rintro e w' ⟨rfl, ⟨nd, rfl⟩⟩))
            go_meet
            case rel => exact ⟨_, (!t268), (by first | rfl | (simp; done) | (simp [*]; done)), H', ⟨by first | omega | exact Nat.le_refl _⟩, ⟨by repeat (first | (with_reducible first | exact HB.out | apply below_alloc | apply pw_below_drewN | apply below_drew1) | exact HB.out)⟩⟩
          · rw [if_neg c14] at H
            have c14b0 : (t271 == t272) = false := beq_eq_false_iff_ne.mpr c14
            have c14b1 : (t271 != t272) = true := bne_iff_ne.mpr c14
            have H' := Aside0.mk H
            clear H
            go_wp2_with (first | (go_at_call 24; (with_reducible refine (impl_BitGet.calls t264 t265 t271 _ A12.out).mono ?_); rintro e w' ⟨rfl, ⟨nd, rfl⟩⟩) | (go_at_call 25; (with_reducible refine (spec_BitGet.calls t264 t265 t272 _ A13.out).mono ?_); rintro e w' ⟨rfl, ⟨nd, rfl⟩⟩))
            go_meet
            case rel => exact ⟨_, (true), (by first | rfl | (simp; done) | (simp [*]; done)), H', ⟨by first | omega | exact Nat.le_refl _⟩, ⟨by repeat (first | (with_reducible first | exact HB.out | apply below_alloc | apply pw_below_drewN | apply below_drew1) | exact HB.out)⟩⟩
      · rw [if_neg c10] at H
        have c10b0 : (t267.toList == t269.toList) = false := beq_eq_false_iff_ne.mpr c10
        have c10b1 : (t267.toList != t269.toList) = true := bne_iff_ne.mpr c10
        (first | rw [c10b0] | (simp only [i64_w, i32_w]; rw [c10b0]) | skip)
        have H' := Aside0.mk H
        clear H
        go_wp2
        go_meet
        case rel => exact ⟨_, (true), (by first | rfl | (simp; done) | (simp [*]; done)), H', ⟨by first | omega | exact Nat.le_refl _⟩, ⟨by repeat (first | (with_reducible first | exact HB.out | apply below_alloc | apply pw_below_drewN | apply below_drew1) | exact HB.out)⟩⟩
    case rest =>
      clear HC6
      try clear c1
      try clear c2
      try clear c2b0
      try clear c2b1
      try clear p2
      try clear c5
      try clear c10
      try clear c10b0
      try clear c10b1
      try clear c11
      try clear c11b0
      try clear c11b1
      try clear c11b2
      try clear c14
      try clear c14b0
      try clear c14b1
      obtain ⟨kq, x57_5, rfl, HA, HJ5, HB⟩ := hcut
      cases kq with
      | zero => exact absurd HA.out (by simp [laws_FnBit.j0])
      | succ kj5 =>
        have H := HA.out
        clear HA
        simp only [laws_FnBit.j0] at H
        by_cases c15 : x57_5 = true
        · subst c15
          have H1 : (if t267.toList = t269.toList then (if (t268 == t270) = true then ((impl_BitGet.f t264 t265).bind fun t273 => ((spec_BitGet.f t264 t265).bind fun t274 => (some (t273 == t274)))) else (some false)) else (some false)) = some r := by rw [if_pos rfl] at H; exact H
          clear H
          have H := H1
          clear H1
          by_cases c16 : t267.toList = t269.toList
          · rw [if_pos c16] at H
            have c16b0 : (t267.toList == t269.toList) = true := beq_iff_eq.mpr c16
            have c16b1 : (t267.toList != t269.toList) = false := bne_eq_false_iff_eq.mpr c16
            clear c16
            by_cases c17 : (t268 == t270) = true
            · rw [if_pos c17] at H
              have c17b0 : (t268 == t270) = true := c17
              (try (have c17b1 : decide (t268 = t270) = true := by simpa using c17))
              (try (have c17b2 : (t268 == t270) = true := by simpa using c17))
              clear c17
              replace H := Option.bind_eq_some_iff.mp H
              obtain ⟨t273, A180, H⟩ := H
              replace H : ((spec_BitGet.f t264 t265).bind fun t274 => (some (t273 == t274))) = some r := H
              have A18 := Aside0.mk A180
              clear A180
              replace H := Option.bind_eq_some_iff.mp H
              obtain ⟨t274, A190, H⟩ := H
              replace H : (some (t273 == t274)) = some r := H
              have A19 := Aside0.mk A190
              clear A190
              obtain rfl := Option.some.inj H
              go_wp2_with (first | (go_at_call 24; (with_reducible refine (impl_BitGet.calls t264 t265 t273 _ A18.out).mono ?_); rintro e w' ⟨rfl, ⟨nd, rfl⟩⟩) | (go_at_call 25; (with_reducible refine (spec_BitGet.calls t264 t265 t274 _ A19.out).mono ?_); rintro e w' ⟨rfl, ⟨nd, rfl⟩⟩))
              go_ret
              exact ⟨by first | rfl | (simp [errW_none, errW_some] <;> rfl) | (simp [*, errW_none, errW_some] <;> rfl), by repeat (first | (with_reducible first | exact HB.out | apply below_alloc | apply pw_below_drewN | apply below_drew1) | exact HB.out)⟩
            · rw [if_neg c17] at H
              have c17b0 : (t268 == t270) = false := by simpa using c17
              (try (have c17b1 : decide (t268 = t270) = false := by simpa using c17))
              (try (have c17b2 : (t268 == t270) = false := by simpa using c17))
              (try (have c17b3 : ¬ (t268 = t270) := by simpa using c17))
              clear c17
              obtain rfl := Option.some.inj H
              go_wp2
              go_ret
              exact ⟨by first | rfl | (simp [errW_none, errW_some] <;> rfl) | (simp [*, errW_none, errW_some] <;> rfl), by repeat (first | (with_reducible first | exact HB.out | apply below_alloc | apply pw_below_drewN | apply below_drew1) | exact HB.out)⟩
          · rw [if_neg c16] at H
            have c16b0 : (t267.toList == t269.toList) = false := beq_eq_false_iff_ne.mpr c16
            have c16b1 : (t267.toList != t269.toList) = true := bne_iff_ne.mpr c16
            obtain rfl := Option.some.inj H
            go_wp2
            go_ret
            exact ⟨by first | rfl | (simp [errW_none, errW_some] <;> rfl) | (simp [*, errW_none, errW_some] <;> rfl), by repeat (first | (with_reducible first | exact HB.out | apply below_alloc | apply pw_below_drewN | apply below_drew1) | exact HB.out)⟩
        · replace c15 := Bool.eq_false_iff.mpr c15
          subst c15
          have H1 : (laws_FnBit.l0 kj5 t264 t265 t266 t267 0 7) = some r := by rw [if_neg (show ¬ (false = true) by decide)] at H; exact H
          clear H
          have H := H1
          clear H1
          have H' := Aside0.mk H
          clear H
          go_wp2
          go_loopg [10, 11] kj5 (fun kq v10 v11 w' => ∃ (x10_2 : Int) (x11_2 : Int), v10 = .int .i64 x10_2 ∧ v11 = .int .i64 x11_2 ∧ Aside0 (laws_FnBit.l0 kq t264 t265 t266 t267 x10_2 x11_2 = some r) ∧ Aside0 (kq ≤ kj5) ∧ Aside0 (Below w.heap.size w w'))
          case atStart => exact ⟨(0), (7), (by first | rfl | (simp; done) | (simp [*]; done)), (by first | rfl | (simp; done) | (simp [*]; done)), H', ⟨Nat.le_refl _⟩, ⟨by repeat (first | (with_reducible first | exact HB.out | apply below_alloc | apply pw_below_drewN | apply below_drew1) | exact HB.out)⟩⟩
          case round =>
            clear H'
            try clear c1
            try clear c2
            try clear c2b0
            try clear c2b1
            try clear p2
            try clear c5
            try clear c10
            try clear c10b0
            try clear c10b1
            try clear c11
            try clear c11b0
            try clear c11b1
            try clear c11b2
            try clear c14
            try clear c14b0
            try clear c14b1
            try clear c15
            try clear c16
            try clear c16b0
            try clear c16b1
            try clear c17
            try clear c17b0
            try clear c17b1
            try clear c17b2
            try clear p2
            obtain ⟨x10_2, x11_2, rfl, rfl, HA, HK2, HB⟩ := hrel
            cases gk with
            | zero => exact absurd HA.out (by simp [laws_FnBit.l0])
            | succ k2 =>
              have H := HA.out
              clear HA
              simp only [laws_FnBit.l0] at H
              by_cases c20 : x11_2 ≥ 0
              · rw [if_pos c20] at H
                have c20b0 : decide (0 ≤ x11_2) = true := decide_eq_true c20
                clear c20
                replace H := Option.bind_eq_some_iff.mp H
                obtain ⟨t275, A210, H⟩ := H
                replace H : (laws_FnBit.l0 k2 t264 t265 t266 t267 (wrap64 ((wrap64 (2 * x10_2)) + t275)) (wrap64 (x11_2 - 1))) = some r := H
                have A21 := Aside0.mk A210
                clear A210
                have H' := Aside0.mk H
                clear H
                go_wp2_with (first | ((with_reducible refine gate_callee (f := 24) rfl ?_); refine goesL_ (some 87) rfl rfl Try.func24 (by kernel_rfl) rfl #[.string t267, .int .i64 (wrap64 ((wrap64 ((wrap64 (Int.tdiv t265 8)) * 8)) + x11_2))] rfl (by (try simp only [List.map_toArray, List.map_cons, List.map_nil]); first | done | rfl | (simp only [List.length_drop, List.length_take]; rfl)) ?_; (with_reducible refine (impl_BitGet.calls t267 (wrap64 ((wrap64 ((wrap64 (Int.tdiv t265 8)) * 8)) + x11_2)) t275 _ A21.out).mono ?_); rintro e w' ⟨rfl, ⟨nd, rfl⟩⟩; refine ⟨_, rfl, ?_⟩))
                go_roundg k2
                case measure => have := HJ5.out; have := HK2.out; omega
                case rel => exact ⟨(wrap64 ((wrap64 (2 * x10_2)) + t275)), (wrap64 (x11_2 - 1)), (by first | rfl | (simp; done) | (simp [*]; done)), (by first | rfl | (simp; done) | (simp [*]; done)), H', ⟨by have := HJ5.out; have := HK2.out; omega⟩, ⟨by repeat (first | (with_reducible first | exact HB.out | apply below_alloc | apply pw_below_drewN | apply below_drew1) | exact HB.out)⟩⟩
              · rw [if_neg c20] at H
                have c20b0 : decide (0 ≤ x11_2) = false := decide_eq_false c20
                clear c20
                replace H := Option.bind_eq_some_iff.mp H
                obtain ⟨t276, A220, H⟩ := H
                replace H : ((impl_BitPut.f t267 t265 t276).bind fun bt277 => ((impl_BitGet.f t267 t265).bind fun t279 => (if t279 = t266 then ((impl_Get.f k2 t267 (wrap64 (Int.tdiv t265 8)) 1).bind fun t280 => (if x10_2 = t280 then (if bt277.2 = true then (some (bt277.1.toList == t264.toList)) else (some false)) else (some false))) else (some false)))) = some r := H
                have A22 := Aside0.mk A220
                clear A220
                replace H := Option.bind_eq_some_iff.mp H
                obtain ⟨⟨t277, t278⟩, A230, H⟩ := H
                replace H : ((impl_BitGet.f t267 t265).bind fun t279 => (if t279 = t266 then ((impl_Get.f k2 t267 (wrap64 (Int.tdiv t265 8)) 1).bind fun t280 => (if x10_2 = t280 then (if t278 = true then (some (t277.toList == t264.toList)) else (some false)) else (some false))) else (some false))) = some r := H
                have A23 := Aside0.mk A230
                clear A230
                replace H := Option.bind_eq_some_iff.mp H
                obtain ⟨t279, A240, H⟩ := H
                replace H : (if t279 = t266 then ((impl_Get.f k2 t267 (wrap64 (Int.tdiv t265 8)) 1).bind fun t280 => (if x10_2 = t280 then (if t278 = true then (some (t277.toList == t264.toList)) else (some false)) else (some false))) else (some false)) = some r := H
                have A24 := Aside0.mk A240
                clear A240
                by_cases c25 : t279 = t266
                · rw [if_pos c25] at H
                  have c25b0 : (t279 == t266) = true := beq_iff_eq.mpr c25
                  have c25b1 : (t279 != t266) = false := bne_eq_false_iff_eq.mpr c25
                  clear c25
                  replace H := Option.bind_eq_some_iff.mp H
                  obtain ⟨t280, A260, H⟩ := H
                  replace H : (if x10_2 = t280 then (if t278 = true then (some (t277.toList == t264.toList)) else (some false)) else (some false)) = some r := H
                  have A26 := Aside0.mk A260
                  clear A260
                  by_cases c27 : x10_2 = t280
                  · rw [if_pos c27] at H
                    have c27b0 : (x10_2 == t280) = true := beq_iff_eq.mpr c27
                    have c27b1 : (x10_2 != t280) = false := bne_eq_false_iff_eq.mpr c27
                    clear c27
                    by_cases c28 : t278 = true
                    · subst c28
                      have H1 : (some (t277.toList == t264.toList)) = some r := by rw [if_pos rfl] at H; exact H
                      clear H
                      have H := H1
                      clear H1
                      obtain rfl := Option.some.inj H
                      go_wp2_with (first | ((with_reducible refine gate_callee (f := 24) rfl ?_); refine goesL_ (some 94) rfl rfl Try.func24 (by kernel_rfl) rfl #[.string t264, .int .i64 t265] rfl (by (try simp only [List.map_toArray, List.map_cons, List.map_nil]); first | done | rfl | (simp only [List.length_drop, List.length_take]; rfl)) ?_; (with_reducible refine (impl_BitGet.calls t264 t265 t276 _ A22.out).mono ?_); rintro e w' ⟨rfl, ⟨nd, rfl⟩⟩; refine ⟨_, rfl, ?_⟩) | ((with_reducible refine gate_callee (f := 22) rfl ?_); refine goesL_ (some 95) rfl rfl Try.func22 (by kernel_rfl) rfl #[.string t267, .int .i64 t265, .int .i64 t276] rfl (by (try simp only [List.map_toArray, List.map_cons, List.map_nil]); first | done | rfl | (simp only [List.length_drop, List.length_take]; rfl)) ?_; (with_reducible refine (impl_BitPut.calls t267 t265 t276 t277 true _ A23.out).mono ?_); rintro e w29 ⟨rfl, hb⟩; refine ⟨_, rfl, ?_⟩; have n0_ := Aside0.mk (below_step (by repeat (first | (with_reducible first | exact HB.out | apply below_alloc | apply pw_below_drewN | apply below_drew1) | exact HB.out)) hb); clear HB; have HB := n0_; clear n0_; (try clear hb); (try clear hb2); (try clear hk); (try clear hi)) | ((with_reducible refine gate_callee (f := 24) rfl ?_); refine goesL_ (some 100) rfl rfl Try.func24 (by kernel_rfl) rfl #[.string t267, .int .i64 t265] rfl (by (try simp only [List.map_toArray, List.map_cons, List.map_nil]); first | done | rfl | (simp only [List.length_drop, List.length_take]; rfl)) ?_; (with_reducible refine (impl_BitGet.calls t267 t265 t279 _ A24.out).mono ?_); rintro e w' ⟨rfl, ⟨nd, rfl⟩⟩; refine ⟨_, rfl, ?_⟩) | (go_at_call 16; (with_reducible refine (impl_Get.calls k2 t267 (wrap64 (Int.tdiv t265 8)) 1 t280 _ A26.out).mono ?_); rintro e w' ⟨rfl, ⟨nd, rfl⟩⟩))
                      go_ret
                      exact ⟨by first | rfl | (simp [errW_none, errW_some] <;> rfl) | (simp [*, errW_none, errW_some] <;> rfl), by repeat (first | (with_reducible first | exact HB.out | apply below_alloc | apply pw_below_drewN | apply below_drew1) | exact HB.out)⟩
                    · replace c28 := Bool.eq_false_iff.mpr c28
                      subst c28
                      have H1 : (some false) = some r := by rw [if_neg (show ¬ (false = true) by decide)] at H; exact H
                      clear H
                      have H := H1
                      clear H1
                      obtain rfl := Option.some.inj H
                      go_wp2_with (first | ((with_reducible refine gate_callee (f := 24) rfl ?_); refine goesL_ (some 94) rfl rfl Try.func24 (by kernel_rfl) rfl #[.string t264, .int .i64 t265] rfl (by (try simp only [List.map_toArray, List.map_cons, List.map_nil]); first | done | rfl | (simp only [List.length_drop, List.length_take]; rfl)) ?_; (with_reducible refine (impl_BitGet.calls t264 t265 t276 _ A22.out).mono ?_); rintro e w' ⟨rfl, ⟨nd, rfl⟩⟩; refine ⟨_, rfl, ?_⟩) | ((with_reducible refine gate_callee (f := 22) rfl ?_); refine goesL_ (some 95) rfl rfl Try.func22 (by kernel_rfl) rfl #[.string t267, .int .i64 t265, .int .i64 t276] rfl (by (try simp only [List.map_toArray, List.map_cons, List.map_nil]); first | done | rfl | (simp only [List.length_drop, List.length_take]; rfl)) ?_; (with_reducible refine (impl_BitPut.calls t267 t265 t276 t277 false _ A23.out).mono ?_); rintro e w30 ⟨rfl, hb⟩; refine ⟨_, rfl, ?_⟩; have n0_ := Aside0.mk (below_step (by repeat (first | (with_reducible first | exact HB.out | apply below_alloc | apply pw_below_drewN | apply below_drew1) | exact HB.out)) hb); clear HB; have HB := n0_; clear n0_; (try clear hb); (try clear hb2); (try clear hk); (try clear hi)) | ((with_reducible refine gate_callee (f := 24) rfl ?_); refine goesL_ (some 100) rfl rfl Try.func24 (by kernel_rfl) rfl #[.string t267, .int .i64 t265] rfl (by (try simp only [List.map_toArray, List.map_cons, List.map_nil]); first | done | rfl | (simp only [List.length_drop, List.length_take]; rfl)) ?_; (with_reducible refine (impl_BitGet.calls t267 t265 t279 _ A24.out).mono ?_); rintro e w' ⟨rfl, ⟨nd, rfl⟩⟩; refine ⟨_, rfl, ?_⟩) | (go_at_call 16; (with_reducible refine (impl_Get.calls k2 t267 (wrap64 (Int.tdiv t265 8)) 1 t280 _ A26.out).mono ?_); rintro e w' ⟨rfl, ⟨nd, rfl⟩⟩))
                      go_ret
                      exact ⟨by first | rfl | (simp [errW_none, errW_some] <;> rfl) | (simp [*, errW_none, errW_some] <;> rfl), by repeat (first | (with_reducible first | exact HB.out | apply below_alloc | apply pw_below_drewN | apply below_drew1) | exact HB.out)⟩
                  · rw [if_neg c27] at H
                    have c27b0 : (x10_2 == t280) = false := beq_eq_false_iff_ne.mpr c27
                    have c27b1 : (x10_2 != t280) = true := bne_iff_ne.mpr c27
                    obtain rfl := Option.some.inj H
                    go_wp2_with (first | ((with_reducible refine gate_callee (f := 24) rfl ?_); refine goesL_ (some 94) rfl rfl Try.func24 (by kernel_rfl) rfl #[.string t264, .int .i64 t265] rfl (by (try simp only [List.map_toArray, List.map_cons, List.map_nil]); first | done | rfl | (simp only [List.length_drop, List.length_take]; rfl)) ?_; (with_reducible refine (impl_BitGet.calls t264 t265 t276 _ A22.out).mono ?_); rintro e w' ⟨rfl, ⟨nd, rfl⟩⟩; refine ⟨_, rfl, ?_⟩) | ((with_reducible refine gate_callee (f := 22) rfl ?_); refine goesL_ (some 95) rfl rfl Try.func22 (by kernel_rfl) rfl #[.string t267, .int .i64 t265, .int .i64 t276] rfl (by (try simp only [List.map_toArray, List.map_cons, List.map_nil]); first | done | rfl | (simp only [List.length_drop, List.length_take]; rfl)) ?_; (with_reducible refine (impl_BitPut.calls t267 t265 t276 t277 t278 _ A23.out).mono ?_); rintro e w31 ⟨rfl, hb⟩; refine ⟨_, rfl, ?_⟩; have n0_ := Aside0.mk (below_step (by repeat (first | (with_reducible first | exact HB.out | apply below_alloc | apply pw_below_drewN | apply below_drew1) | exact HB.out)) hb); clear HB; have HB := n0_; clear n0_; (try clear hb); (try clear hb2); (try clear hk); (try clear hi)) | ((with_reducible refine gate_callee (f := 24) rfl ?_); refine goesL_ (some 100) rfl rfl Try.func24 (by kernel_rfl) rfl #[.string t267, .int .i64 t265] rfl (by (try simp only [List.map_toArray, List.map_cons, List.map_nil]); first | done | rfl | (simp only [List.length_drop, List.length_take]; rfl)) ?_; (with_reducible refine (impl_BitGet.calls t267 t265 t279 _ A24.out).mono ?_); rintro e w' ⟨rfl, ⟨nd, rfl⟩⟩; refine ⟨_, rfl, ?_⟩) | (go_at_call 16; (with_reducible refine (impl_Get.calls k2 t267 (wrap64 (Int.tdiv t265 8)) 1 t280 _ A26.out).mono ?_); rintro e w' ⟨rfl, ⟨nd, rfl⟩⟩))
                    go_ret
                    exact ⟨by first | rfl | (simp [errW_none, errW_some] <;> rfl) | (simp [*, errW_none, errW_some] <;> rfl), by repeat (first | (with_reducible first | exact HB.out | apply below_alloc | apply pw_below_drewN | apply below_drew1) | exact HB.out)⟩
                · rw [if_neg c25] at H
                  have c25b0 : (t279 == t266) = false := beq_eq_false_iff_ne.mpr c25
                  have c25b1 : (t279 != t266) = true := bne_iff_ne.mpr c25
                  obtain rfl := Option.some.inj H
                  go_wp2_with (first | ((with_reducible refine gate_callee (f := 24) rfl ?_); refine goesL_ (some 94) rfl rfl Try.func24 (by kernel_rfl) rfl #[.string t264, .int .i64 t265] rfl (by (try simp only [List.map_toArray, List.map_cons, List.map_nil]); first | done | rfl | (simp only [List.length_drop, List.length_take]; rfl)) ?_; (with_reducible refine (impl_BitGet.calls t264 t265 t276 _ A22.out).mono ?_); rintro e w' ⟨rfl, ⟨nd, rfl⟩⟩; refine ⟨_, rfl, ?_⟩) | ((with_reducible refine gate_callee (f := 22) rfl ?_); refine goesL_ (some 95) rfl rfl Try.func22 (by kernel_rfl) rfl #[.string t267, .int .i64 t265, .int .i64 t276] rfl (by (try simp only [List.map_toArray, List.map_cons, List.map_nil]); first | done | rfl | (simp only [List.length_drop, List.length_take]; rfl)) ?_; (with_reducible refine (impl_BitPut.calls t267 t265 t276 t277 t278 _ A23.out).mono ?_); rintro e w32 ⟨rfl, hb⟩; refine ⟨_, rfl, ?_⟩; have n0_ := Aside0.mk (below_step (by repeat (first | (with_reducible first | exact HB.out | apply below_alloc | apply pw_below_drewN | apply below_drew1) | exact HB.out)) hb); clear HB; have HB := n0_; clear n0_; (try clear hb); (try clear hb2); (try clear hk); (try clear hi)) | ((with_reducible refine gate_callee (f := 24) rfl ?_); refine goesL_ (some 100) rfl rfl Try.func24 (by kernel_rfl) rfl #[.string t267, .int .i64 t265] rfl (by (try simp only [List.map_toArray, List.map_cons, List.map_nil]); first | done | rfl | (simp only [List.length_drop, List.length_take]; rfl)) ?_; (with_reducible refine (impl_BitGet.calls t267 t265 t279 _ A24.out).mono ?_); rintro e w' ⟨rfl, ⟨nd, rfl⟩⟩; refine ⟨_, rfl, ?_⟩))
                  go_ret
                  exact ⟨by first | rfl | (simp [errW_none, errW_some] <;> rfl) | (simp [*, errW_none, errW_some] <;> rfl), by repeat (first | (with_reducible first | exact HB.out | apply below_alloc | apply pw_below_drewN | apply below_drew1) | exact HB.out)⟩

/-- THE ONE PURE STATEMENT of laws_FnBit: yours. -/
def laws_FnBit.Pure : Prop := ∀ (l0 : List Int), l0.length ≤ maxLen → l0.length * 1 ≤ 140737488351232 → (∀ x ∈ l0, (Lit.int .u8 x).wf = true) → ∃ k, laws_FnBit.f k l0 = some true
theorem laws_FnBit.walk (P : laws_FnBit.Pure) (a0 : Option Addr) (len0 cap0 : Nat) (z0 : List Int) (w : World) (w0 : (a0 = none ∧ len0 = 0 ∧ cap0 = 0 ∧ z0 = []) ∨ ∃ x, a0 = some x ∧ len0 ≤ cap0 ∧ cap0 ≤ maxLen ∧ z0.length = cap0 ∧ (∀ i, i < z0.length → w.cell? (x.add i) = some (.int .u8 (z0.getD i 0))) ∧ ∀ n ∈ z0, (Lit.int .u8 n).wf = true) (y0 : len0 * 1 ≤ 140737488351232) :
    Calls Try.prog 5 #[.slice a0 len0 cap0] w fun e w' => e = .returned (.bool true) ∧ Below w.heap.size w w' := by
  obtain ⟨l0, rfl, hr0, hm0, hw0, hc0⟩ := ReadsInt.ofRowC w0
  obtain ⟨k, h⟩ := P l0 hm0 y0 hw0
  refine (laws_FnBit.calls k _ _ l0 true w (Kd.C_of_reads (d := (0 : Int)) (h1 := fun _ => rfl) hr0) hc0 h).mono ?_
  rintro e w' ⟨rfl, hd⟩
  exact ⟨rfl, hd⟩

end Go.Proofs.Ytfeodfgjpjddhaa.P
