-- PRINTED by print.py (a twelfth state) out of the translation. Not trusted: Lean checks it.
import Derived.Test.YtfeodfgjpjddhaaPx0
import Derived.Test.YtfeodfgjpjddhaaPx10
import Derived.Test.YtfeodfgjpjddhaaPx13
import Derived.Test.YtfeodfgjpjddhaaPx16
namespace Go.Proofs.Ytfeodfgjpjddhaa.P
open Go.RowKit Go.Proofs.YtfeodfgjpjddhaaW.PrintWords Go.Proofs.YtfeodfgjpjddhaaW.PrintLast Go.Proofs.YtfeodfgjpjddhaaW.PrintMore
attribute [local go_sem] max2_int min2_int max_two min_two max_three min_three max_four min_four   -- for this text's walks alone
set_option linter.unusedVariables false
set_option linter.unusedSimpArgs false

/-! ### laws_FnGetParts: function 3 -/
def laws_FnGetParts.j0 : Nat → ByteArray → Int → Int → Int → Bool → Option (Bool)
  | 0, _, _, _, _, _ => none
  | k + 1, x3, x4, x5, x6, x39 => if x39 = true then ((spec_Get.f k x3 x4 x5).bind fun t179 => (some (x6 == t179))) else ((impl_Get.f k x3 x4 4).bind fun t180 => ((impl_Get.f k x3 x4 2).bind fun t181 => ((impl_Get.f k x3 x4 1).bind fun t182 => ((impl_Get.f k x3 (wrap64 (x4 + 1)) 1).bind fun t183 => (if t181 = (wrap64 (t182 + (wrap64 (256 * t183)))) then ((impl_Get.f k x3 x4 2).bind fun t184 => ((impl_Get.f k x3 (wrap64 (x4 + 2)) 2).bind fun t185 => (if t180 = (wrap64 (t184 + (wrap64 (65536 * t185)))) then (some (decide (t180 ≥ 0))) else (some false)))) else (some false))))))
def laws_FnGetParts.f (k : Nat) (l0 : List Int) : Option (Bool) := if (l0.length : Int) > 1048576 then (some true) else ((spec_DrawGet.f k l0).bind fun bt174 => ((impl_Get.f k bt174.1 bt174.2.1 bt174.2.2).bind fun t177 => ((spec_Get.f k bt174.1 bt174.2.1 bt174.2.2).bind fun t178 => (if t177 = t178 then (if bt174.2.1 < 0 then (laws_FnGetParts.j0 k bt174.1 bt174.2.1 bt174.2.2 t177 true) else (if bt174.2.1 > 1500 then (laws_FnGetParts.j0 k bt174.1 bt174.2.1 bt174.2.2 t177 true) else (laws_FnGetParts.j0 k bt174.1 bt174.2.1 bt174.2.2 t177 ((Int.tmod bt174.2.1 8) != 0)))) else (laws_FnGetParts.j0 k bt174.1 bt174.2.1 bt174.2.2 t177 true)))))
theorem laws_FnGetParts.mono_l : ∀ k, (∀ y0 y1 y2 y3 y4, LeO (laws_FnGetParts.j0 k y0 y1 y2 y3 y4) (laws_FnGetParts.j0 (k + 1) y0 y1 y2 y3 y4))
  | 0 => fun _ _ _ _ _ r h => by simp [laws_FnGetParts.j0] at h
  | k + 1 => by
    have ih0 := laws_FnGetParts.mono_l k
    · intro y0 y1 y2 y3 y4
      unfold laws_FnGetParts.j0
      repeat' first
      | (with_reducible exact ih0 _ _ _ _ _)
      | (with_reducible exact impl_Get.mono _ _ _ _)
      | (with_reducible exact spec_DrawGet.mono _ _)
      | (with_reducible exact spec_Get.mono _ _ _ _)
      | (with_reducible exact LeO.refl _)
      | (with_reducible exact LeO.none _)
      | (with_reducible refine LeO.ite ?_ ?_)
      | (with_reducible refine LeO.bind ?_ (fun _ => ?_))
      | exact ih0 _ _ _ _ _
      | exact impl_Get.mono _ _ _ _
      | exact spec_DrawGet.mono _ _
      | exact spec_Get.mono _ _ _ _
      | exact LeO.none _
      | refine LeO.ite ?_ ?_
      | refine LeO.bind ?_ (fun _ => ?_)
theorem laws_FnGetParts.mono : ∀ a0 k, LeO (laws_FnGetParts.f k a0) (laws_FnGetParts.f (k + 1) a0) := by
  intro a0 k
  have ih0 := laws_FnGetParts.mono_l k
  unfold laws_FnGetParts.f
  repeat' first
      | (with_reducible exact ih0 _ _ _ _ _)
      | (with_reducible exact impl_Get.mono _ _ _ _)
      | (with_reducible exact spec_DrawGet.mono _ _)
      | (with_reducible exact spec_Get.mono _ _ _ _)
      | (with_reducible exact LeO.refl _)
      | (with_reducible exact LeO.none _)
      | (with_reducible refine LeO.ite ?_ ?_)
      | (with_reducible refine LeO.bind ?_ (fun _ => ?_))
      | exact ih0 _ _ _ _ _
      | exact impl_Get.mono _ _ _ _
      | exact spec_DrawGet.mono _ _
      | exact spec_Get.mono _ _ _ _
      | exact LeO.none _
      | refine LeO.ite ?_ ?_
      | refine LeO.bind ?_ (fun _ => ?_)
set_option maxHeartbeats 8000000 in
set_option maxRecDepth 100000 in
theorem laws_FnGetParts.calls (k : Nat) (A0 : Option Addr) (c0 : Nat) (l0 : List Int) (r : Bool) (w : World) (hr0 : Kd.C (Kd.int .u8) w A0 l0.length l0) (hc0 : l0.length ≤ c0) (h : laws_FnGetParts.f k l0 = some r) :
    Calls Try.prog 3 #[.slice A0 l0.length c0] w fun e w' => e = .returned (.bool r) ∧ Below w.heap.size w w' := by
  have HR0 := Aside0.mk hr0
  have HC0 := Aside0.mk hc0
  clear hr0 hc0
  have HB := Aside0.mk (Below.refl w.heap.size w)
  have H : (if (l0.length : Int) > 1048576 then (some true) else ((spec_DrawGet.f k l0).bind fun bt174 => ((impl_Get.f k bt174.1 bt174.2.1 bt174.2.2).bind fun t177 => ((spec_Get.f k bt174.1 bt174.2.1 bt174.2.2).bind fun t178 => (if t177 = t178 then (if bt174.2.1 < 0 then (laws_FnGetParts.j0 k bt174.1 bt174.2.1 bt174.2.2 t177 true) else (if bt174.2.1 > 1500 then (laws_FnGetParts.j0 k bt174.1 bt174.2.1 bt174.2.2 t177 true) else (laws_FnGetParts.j0 k bt174.1 bt174.2.1 bt174.2.2 t177 ((Int.tmod bt174.2.1 8) != 0)))) else (laws_FnGetParts.j0 k bt174.1 bt174.2.1 bt174.2.2 t177 true)))))) = some r := h
  clear h
  by_cases c2 : (l0.length : Int) > 1048576
  · rw [if_pos c2] at H
    have c2b0 : decide (1048576 < (l0.length : Int)) = true := decide_eq_true c2
    have c2b1 : decide (1048576 < l0.length) = true := decide_eq_true (by omega)
    clear c2
    obtain rfl := Option.some.inj H
    go_enter Try.func3, Try.ntmps3
    go_wp2
    go_ret
    exact ⟨by first | rfl | (simp [errW_none, errW_some] <;> rfl) | (simp [*, errW_none, errW_some] <;> rfl), by repeat (first | (with_reducible first | exact HB.out | apply below_alloc | apply pw_below_drewN | apply below_drew1) | exact HB.out)⟩
  · rw [if_neg c2] at H
    have c2b0 : decide (1048576 < (l0.length : Int)) = false := decide_eq_false c2
    have c2b1 : decide (1048576 < l0.length) = false := decide_eq_false (by omega)
    clear c2
    replace H := Option.bind_eq_some_iff.mp H
    obtain ⟨⟨t174, t175, t176⟩, A30, H⟩ := H
    replace H : ((impl_Get.f k t174 t175 t176).bind fun t177 => ((spec_Get.f k t174 t175 t176).bind fun t178 => (if t177 = t178 then (if t175 < 0 then (laws_FnGetParts.j0 k t174 t175 t176 t177 true) else (if t175 > 1500 then (laws_FnGetParts.j0 k t174 t175 t176 t177 true) else (laws_FnGetParts.j0 k t174 t175 t176 t177 ((Int.tmod t175 8) != 0)))) else (laws_FnGetParts.j0 k t174 t175 t176 t177 true)))) = some r := H
    have A3 := Aside0.mk A30
    clear A30
    replace H := Option.bind_eq_some_iff.mp H
    obtain ⟨t177, A40, H⟩ := H
    replace H : ((spec_Get.f k t174 t175 t176).bind fun t178 => (if t177 = t178 then (if t175 < 0 then (laws_FnGetParts.j0 k t174 t175 t176 t177 true) else (if t175 > 1500 then (laws_FnGetParts.j0 k t174 t175 t176 t177 true) else (laws_FnGetParts.j0 k t174 t175 t176 t177 ((Int.tmod t175 8) != 0)))) else (laws_FnGetParts.j0 k t174 t175 t176 t177 true))) = some r := H
    have A4 := Aside0.mk A40
    clear A40
    have HC5 := Aside0.mk H
    clear H
    go_enter Try.func3, Try.ntmps3
    go_upto_region 5 with (first | ((with_reducible refine gate_callee (f := 15) rfl ?_); refine goesL_ (some 13) rfl rfl Try.func15 (by kernel_rfl) rfl #[.slice A0 l0.length c0] rfl (by (try simp only [List.map_toArray, List.map_cons, List.map_nil]); first | done | rfl | (simp only [List.length_drop, List.length_take]; rfl)) ?_; (with_reducible refine (spec_DrawGet.calls k _ _ l0 t174 t175 t176 _ ?side1 ?side2 A3.out).mono ?_); (case side1 => repeat (first | exact HR0.out | (with_reducible refine Kd.C_alloc ?_ _) | (with_reducible refine Kd.C_drewN ?_ _) | (with_reducible refine Kd.C_drew ?_))); (case side2 => exact HC0.out); rintro e w6 ⟨rfl, hb⟩; refine ⟨_, rfl, ?_⟩; have n0_ := Aside0.mk (below_step (by repeat (first | (with_reducible first | exact HB.out | apply below_alloc | apply pw_below_drewN | apply below_drew1) | exact HB.out)) hb); clear HB; have HB := n0_; clear n0_; (try clear hb); (try clear hb2); (try clear hk); (try clear hi)) | ((with_reducible refine gate_callee (f := 16) rfl ?_); refine goesL_ (some 20) rfl rfl Try.func16 (by kernel_rfl) rfl #[.string t174, .int .i64 t175, .int .i64 t176] rfl (by (try simp only [List.map_toArray, List.map_cons, List.map_nil]); first | done | rfl | (simp only [List.length_drop, List.length_take]; rfl)) ?_; (with_reducible refine (impl_Get.calls k t174 t175 t176 t177 _ A4.out).mono ?_); rintro e w' ⟨rfl, ⟨nd, rfl⟩⟩; refine ⟨_, rfl, ?_⟩))
    (try simp only [Act.put, List.setIfInBounds_toArray, List.set_cons_zero, List.set_cons_succ])
    go_cut [39] (fun v39 wc => ∃ (kq : Nat) (x39_4 : Bool), v39 = .bool x39_4 ∧ Aside0 (laws_FnGetParts.j0 kq t174 t175 t176 t177 x39_4 = some r) ∧ Aside0 (kq ≤ k) ∧ Aside0 (Below w.heap.size w wc))
    case first =>
      have H := HC5.out
      clear HC5
      replace H := Option.bind_eq_some_iff.mp H
      obtain ⟨t178, A70, H⟩ := H
      replace H : (if t177 = t178 then (if t175 < 0 then (laws_FnGetParts.j0 k t174 t175 t176 t177 true) else (if t175 > 1500 then (laws_FnGetParts.j0 k t174 t175 t176 t177 true) else (laws_FnGetParts.j0 k t174 t175 t176 t177 ((Int.tmod t175 8) != 0)))) else (laws_FnGetParts.j0 k t174 t175 t176 t177 true)) = some r := H
      have A7 := Aside0.mk A70
      clear A70
      by_cases c8 : t177 = t178
      · rw [if_pos c8] at H
        have c8b0 : (t177 == t178) = true := beq_iff_eq.mpr c8
        have c8b1 : (t177 != t178) = false := bne_eq_false_iff_eq.mpr c8
        clear c8
        (first | rw [c8b0] | (simp only [i64_w, i32_w]; rw [c8b0]) | skip)
        by_cases c9 : t175 < 0
        · rw [if_pos c9] at H
          have c9b0 : decide (t175 < 0) = true := decide_eq_true c9
          clear c9
          have H' := Aside0.mk H
          clear H
          go_wp2_with (first | ((with_reducible refine gate_callee (f := 17) rfl ?_); refine goesL_ (some 25) rfl rfl Try.func17 (by kernel_rfl) rfl #[.string t174, .int .i64 t175, .int .i64 t176] rfl (by (try simp only [List.map_toArray, List.map_cons, List.map_nil]); first | done | rfl | (simp only [List.length_drop, List.length_take]; rfl)) ?_; (with_reducible refine (spec_Get.calls k t174 t175 t176 t178 _ A7.out).mono ?_); rintro e w' ⟨rfl, ⟨nd, rfl⟩⟩; refine ⟨_, rfl, ?_⟩))
          go_meet
          case rel => exact ⟨_, (true), (by first | rfl | (simp; done) | (simp [*]; done)), H', ⟨by first | omega | exact Nat.le_refl _⟩, ⟨by repeat (first | (with_reducible first | exact HB.out | apply below_alloc | apply pw_below_drewN | apply below_drew1) | exact HB.out)⟩⟩
        · rw [if_neg c9] at H
          have c9b0 : decide (t175 < 0) = false := decide_eq_false c9
          clear c9
          by_cases c10 : t175 > 1500
          · rw [if_pos c10] at H
            have c10b0 : decide (1500 < t175) = true := decide_eq_true c10
            clear c10
            have H' := Aside0.mk H
            clear H
            go_wp2_with (first | ((with_reducible refine gate_callee (f := 17) rfl ?_); refine goesL_ (some 25) rfl rfl Try.func17 (by kernel_rfl) rfl #[.string t174, .int .i64 t175, .int .i64 t176] rfl (by (try simp only [List.map_toArray, List.map_cons, List.map_nil]); first | done | rfl | (simp only [List.length_drop, List.length_take]; rfl)) ?_; (with_reducible refine (spec_Get.calls k t174 t175 t176 t178 _ A7.out).mono ?_); rintro e w' ⟨rfl, ⟨nd, rfl⟩⟩; refine ⟨_, rfl, ?_⟩))
            go_meet
            case rel => exact ⟨_, (true), (by first | rfl | (simp; done) | (simp [*]; done)), H', ⟨by first | omega | exact Nat.le_refl _⟩, ⟨by repeat (first | (with_reducible first | exact HB.out | apply below_alloc | apply pw_below_drewN | apply below_drew1) | exact HB.out)⟩⟩
          · rw [if_neg c10] at H
            have c10b0 : decide (1500 < t175) = false := decide_eq_false c10
            clear c10
            have H' := Aside0.mk H
            clear H
            go_wp2_with (first | ((with_reducible refine gate_callee (f := 17) rfl ?_); refine goesL_ (some 25) rfl rfl Try.func17 (by kernel_rfl) rfl #[.string t174, .int .i64 t175, .int .i64 t176] rfl (by (try simp only [List.map_toArray, List.map_cons, List.map_nil]); first | done | rfl | (simp only [List.length_drop, List.length_take]; rfl)) ?_; (with_reducible refine (spec_Get.calls k t174 t175 t176 t178 _ A7.out).mono ?_); rintro e w' ⟨rfl, ⟨nd, rfl⟩⟩; refine ⟨_, rfl, ?_⟩))
            go_meet
            case rel => exact ⟨_, (((Int.tmod t175 8) != 0)), (by first | rfl | (simp; done) | (simp [*]; done)), H', ⟨by first | omega | exact Nat.le_refl _⟩, ⟨by repeat (first | (with_reducible first | exact HB.out | apply below_alloc | apply pw_below_drewN | apply below_drew1) | exact HB.out)⟩⟩
      · rw [if_neg c8] at H
        have c8b0 : (t177 == t178) = false := beq_eq_false_iff_ne.mpr c8
        have c8b1 : (t177 != t178) = true := bne_iff_ne.mpr c8
        (first | rw [c8b0] | (simp only [i64_w, i32_w]; rw [c8b0]) | skip)
        have H' := Aside0.mk H
        clear H
        go_wp2_with (first | ((with_reducible refine gate_callee (f := 17) rfl ?_); refine goesL_ (some 25) rfl rfl Try.func17 (by kernel_rfl) rfl #[.string t174, .int .i64 t175, .int .i64 t176] rfl (by (try simp only [List.map_toArray, List.map_cons, List.map_nil]); first | done | rfl | (simp only [List.length_drop, List.length_take]; rfl)) ?_; (with_reducible refine (spec_Get.calls k t174 t175 t176 t178 _ A7.out).mono ?_); rintro e w' ⟨rfl, ⟨nd, rfl⟩⟩; refine ⟨_, rfl, ?_⟩))
        go_meet
        case rel => exact ⟨_, (true), (by first | rfl | (simp; done) | (simp [*]; done)), H', ⟨by first | omega | exact Nat.le_refl _⟩, ⟨by repeat (first | (with_reducible first | exact HB.out | apply below_alloc | apply pw_below_drewN | apply below_drew1) | exact HB.out)⟩⟩
    case rest =>
      clear HC5
      try clear c1
      try clear c2
      try clear c2b0
      try clear c2b1
      try clear p2
      try clear c3
      try clear c8
      try clear c8b0
      try clear c8b1
      try clear c9
      try clear c9b0
      try clear c10
      try clear c10b0
      obtain ⟨kq, x39_4, rfl, HA, HJ4, HB⟩ := hcut
      cases kq with
      | zero => exact absurd HA.out (by simp [laws_FnGetParts.j0])
      | succ kj4 =>
        have H := HA.out
        clear HA
        simp only [laws_FnGetParts.j0] at H
        by_cases c11 : x39_4 = true
        · subst c11
          have H1 : ((spec_Get.f kj4 t174 t175 t176).bind fun t179 => (some (t177 == t179))) = some r := by rw [if_pos rfl] at H; exact H
          clear H
          have H := H1
          clear H1
          replace H := Option.bind_eq_some_iff.mp H
          obtain ⟨t179, A120, H⟩ := H
          replace H : (some (t177 == t179)) = some r := H
          have A12 := Aside0.mk A120
          clear A120
          obtain rfl := Option.some.inj H
          go_wp2_with (first | ((with_reducible refine gate_callee (f := 17) rfl ?_); refine goesL_ (some 44) rfl rfl Try.func17 (by kernel_rfl) rfl #[.string t174, .int .i64 t175, .int .i64 t176] rfl (by (try simp only [List.map_toArray, List.map_cons, List.map_nil]); first | done | rfl | (simp only [List.length_drop, List.length_take]; rfl)) ?_; (with_reducible refine (spec_Get.calls kj4 t174 t175 t176 t179 _ A12.out).mono ?_); rintro e w' ⟨rfl, ⟨nd, rfl⟩⟩; refine ⟨_, rfl, ?_⟩))
          go_ret
          exact ⟨by first | rfl | (simp [errW_none, errW_some] <;> rfl) | (simp [*, errW_none, errW_some] <;> rfl), by repeat (first | (with_reducible first | exact HB.out | apply below_alloc | apply pw_below_drewN | apply below_drew1) | exact HB.out)⟩
        · replace c11 := Bool.eq_false_iff.mpr c11
          subst c11
          have H1 : ((impl_Get.f kj4 t174 t175 4).bind fun t180 => ((impl_Get.f kj4 t174 t175 2).bind fun t181 => ((impl_Get.f kj4 t174 t175 1).bind fun t182 => ((impl_Get.f kj4 t174 (wrap64 (t175 + 1)) 1).bind fun t183 => (if t181 = (wrap64 (t182 + (wrap64 (256 * t183)))) then ((impl_Get.f kj4 t174 t175 2).bind fun t184 => ((impl_Get.f kj4 t174 (wrap64 (t175 + 2)) 2).bind fun t185 => (if t180 = (wrap64 (t184 + (wrap64 (65536 * t185)))) then (some (decide (t180 ≥ 0))) else (some false)))) else (some false)))))) = some r := by rw [if_neg (show ¬ (false = true) by decide)] at H; exact H
          clear H
          have H := H1
          clear H1
          replace H := Option.bind_eq_some_iff.mp H
          obtain ⟨t180, A130, H⟩ := H
          replace H : ((impl_Get.f kj4 t174 t175 2).bind fun t181 => ((impl_Get.f kj4 t174 t175 1).bind fun t182 => ((impl_Get.f kj4 t174 (wrap64 (t175 + 1)) 1).bind fun t183 => (if t181 = (wrap64 (t182 + (wrap64 (256 * t183)))) then ((impl_Get.f kj4 t174 t175 2).bind fun t184 => ((impl_Get.f kj4 t174 (wrap64 (t175 + 2)) 2).bind fun t185 => (if t180 = (wrap64 (t184 + (wrap64 (65536 * t185)))) then (some (decide (t180 ≥ 0))) else (some false)))) else (some false))))) = some r := H
          have A13 := Aside0.mk A130
          clear A130
          replace H := Option.bind_eq_some_iff.mp H
          obtain ⟨t181, A140, H⟩ := H
          replace H : ((impl_Get.f kj4 t174 t175 1).bind fun t182 => ((impl_Get.f kj4 t174 (wrap64 (t175 + 1)) 1).bind fun t183 => (if t181 = (wrap64 (t182 + (wrap64 (256 * t183)))) then ((impl_Get.f kj4 t174 t175 2).bind fun t184 => ((impl_Get.f kj4 t174 (wrap64 (t175 + 2)) 2).bind fun t185 => (if t180 = (wrap64 (t184 + (wrap64 (65536 * t185)))) then (some (decide (t180 ≥ 0))) else (some false)))) else (some false)))) = some r := H
          have A14 := Aside0.mk A140
          clear A140
          replace H := Option.bind_eq_some_iff.mp H
          obtain ⟨t182, A150, H⟩ := H
          replace H : ((impl_Get.f kj4 t174 (wrap64 (t175 + 1)) 1).bind fun t183 => (if t181 = (wrap64 (t182 + (wrap64 (256 * t183)))) then ((impl_Get.f kj4 t174 t175 2).bind fun t184 => ((impl_Get.f kj4 t174 (wrap64 (t175 + 2)) 2).bind fun t185 => (if t180 = (wrap64 (t184 + (wrap64 (65536 * t185)))) then (some (decide (t180 ≥ 0))) else (some false)))) else (some false))) = some r := H
          have A15 := Aside0.mk A150
          clear A150
          replace H := Option.bind_eq_some_iff.mp H
          obtain ⟨t183, A160, H⟩ := H
          replace H : (if t181 = (wrap64 (t182 + (wrap64 (256 * t183)))) then ((impl_Get.f kj4 t174 t175 2).bind fun t184 => ((impl_Get.f kj4 t174 (wrap64 (t175 + 2)) 2).bind fun t185 => (if t180 = (wrap64 (t184 + (wrap64 (65536 * t185)))) then (some (decide (t180 ≥ 0))) else (some false)))) else (some false)) = some r := H
          have A16 := Aside0.mk A160
          clear A160
          by_cases c17 : t181 = (wrap64 (t182 + (wrap64 (256 * t183))))
          · rw [if_pos c17] at H
            have c17b0 : (t181 == (wrap64 (t182 + (wrap64 (256 * t183))))) = true := beq_iff_eq.mpr c17
            have c17b1 : (t181 != (wrap64 (t182 + (wrap64 (256 * t183))))) = false := bne_eq_false_iff_eq.mpr c17
            clear c17
            replace H := Option.bind_eq_some_iff.mp H
            obtain ⟨t184, A180, H⟩ := H
            replace H : ((impl_Get.f kj4 t174 (wrap64 (t175 + 2)) 2).bind fun t185 => (if t180 = (wrap64 (t184 + (wrap64 (65536 * t185)))) then (some (decide (t180 ≥ 0))) else (some false))) = some r := H
            have A18 := Aside0.mk A180
            clear A180
            replace H := Option.bind_eq_some_iff.mp H
            obtain ⟨t185, A190, H⟩ := H
            replace H : (if t180 = (wrap64 (t184 + (wrap64 (65536 * t185)))) then (some (decide (t180 ≥ 0))) else (some false)) = some r := H
            have A19 := Aside0.mk A190
            clear A190
            by_cases c20 : t180 = (wrap64 (t184 + (wrap64 (65536 * t185))))
            · rw [if_pos c20] at H
              have c20b0 : (t180 == (wrap64 (t184 + (wrap64 (65536 * t185))))) = true := beq_iff_eq.mpr c20
              have c20b1 : (t180 != (wrap64 (t184 + (wrap64 (65536 * t185))))) = false := bne_eq_false_iff_eq.mpr c20
              clear c20
              obtain rfl := Option.some.inj H
              go_wp2_with (first | ((with_reducible refine gate_callee (f := 16) rfl ?_); refine goesL_ (some 48) rfl rfl Try.func16 (by kernel_rfl) rfl #[.string t174, .int .i64 t175, .int .i64 4] rfl (by (try simp only [List.map_toArray, List.map_cons, List.map_nil]); first | done | rfl | (simp only [List.length_drop, List.length_take]; rfl)) ?_; (with_reducible refine (impl_Get.calls kj4 t174 t175 4 t180 _ A13.out).mono ?_); rintro e w' ⟨rfl, ⟨nd, rfl⟩⟩; refine ⟨_, rfl, ?_⟩) | ((with_reducible refine gate_callee (f := 16) rfl ?_); refine goesL_ (some 51) rfl rfl Try.func16 (by kernel_rfl) rfl #[.string t174, .int .i64 t175, .int .i64 2] rfl (by (try simp only [List.map_toArray, List.map_cons, List.map_nil]); first | done | rfl | (simp only [List.length_drop, List.length_take]; rfl)) ?_; (with_reducible refine (impl_Get.calls kj4 t174 t175 2 t181 _ A14.out).mono ?_); rintro e w' ⟨rfl, ⟨nd, rfl⟩⟩; refine ⟨_, rfl, ?_⟩) | ((with_reducible refine gate_callee (f := 16) rfl ?_); refine goesL_ (some 54) rfl rfl Try.func16 (by kernel_rfl) rfl #[.string t174, .int .i64 t175, .int .i64 1] rfl (by (try simp only [List.map_toArray, List.map_cons, List.map_nil]); first | done | rfl | (simp only [List.length_drop, List.length_take]; rfl)) ?_; (with_reducible refine (impl_Get.calls kj4 t174 t175 1 t182 _ A15.out).mono ?_); rintro e w' ⟨rfl, ⟨nd, rfl⟩⟩; refine ⟨_, rfl, ?_⟩) | ((with_reducible refine gate_callee (f := 16) rfl ?_); refine goesL_ (some 58) rfl rfl Try.func16 (by kernel_rfl) rfl #[.string t174, .int .i64 (wrap64 (t175 + 1)), .int .i64 1] rfl (by (try simp only [List.map_toArray, List.map_cons, List.map_nil]); first | done | rfl | (simp only [List.length_drop, List.length_take]; rfl)) ?_; (with_reducible refine (impl_Get.calls kj4 t174 (wrap64 (t175 + 1)) 1 t183 _ A16.out).mono ?_); rintro e w' ⟨rfl, ⟨nd, rfl⟩⟩; refine ⟨_, rfl, ?_⟩) | (go_at_call 16; (with_reducible refine (impl_Get.calls kj4 t174 t175 2 t184 _ A18.out).mono ?_); rintro e w' ⟨rfl, ⟨nd, rfl⟩⟩) | (go_at_call 16; (with_reducible refine (impl_Get.calls kj4 t174 (wrap64 (t175 + 2)) 2 t185 _ A19.out).mono ?_); rintro e w' ⟨rfl, ⟨nd, rfl⟩⟩))
              go_ret
              exact ⟨by first | rfl | (simp [errW_none, errW_some] <;> rfl) | (simp [*, errW_none, errW_some] <;> rfl), by repeat (first | (with_reducible first | exact HB.out | apply below_alloc | apply pw_below_drewN | apply below_drew1) | exact HB.out)⟩
            · rw [if_neg c20] at H
              have c20b0 : (t180 == (wrap64 (t184 + (wrap64 (65536 * t185))))) = false := beq_eq_false_iff_ne.mpr c20
              have c20b1 : (t180 != (wrap64 (t184 + (wrap64 (65536 * t185))))) = true := bne_iff_ne.mpr c20
              obtain rfl := Option.some.inj H
              go_wp2_with (first | ((with_reducible refine gate_callee (f := 16) rfl ?_); refine goesL_ (some 48) rfl rfl Try.func16 (by kernel_rfl) rfl #[.string t174, .int .i64 t175, .int .i64 4] rfl (by (try simp only [List.map_toArray, List.map_cons, List.map_nil]); first | done | rfl | (simp only [List.length_drop, List.length_take]; rfl)) ?_; (with_reducible refine (impl_Get.calls kj4 t174 t175 4 t180 _ A13.out).mono ?_); rintro e w' ⟨rfl, ⟨nd, rfl⟩⟩; refine ⟨_, rfl, ?_⟩) | ((with_reducible refine gate_callee (f := 16) rfl ?_); refine goesL_ (some 51) rfl rfl Try.func16 (by kernel_rfl) rfl #[.string t174, .int .i64 t175, .int .i64 2] rfl (by (try simp only [List.map_toArray, List.map_cons, List.map_nil]); first | done | rfl | (simp only [List.length_drop, List.length_take]; rfl)) ?_; (with_reducible refine (impl_Get.calls kj4 t174 t175 2 t181 _ A14.out).mono ?_); rintro e w' ⟨rfl, ⟨nd, rfl⟩⟩; refine ⟨_, rfl, ?_⟩) | ((with_reducible refine gate_callee (f := 16) rfl ?_); refine goesL_ (some 54) rfl rfl Try.func16 (by kernel_rfl) rfl #[.string t174, .int .i64 t175, .int .i64 1] rfl (by (try simp only [List.map_toArray, List.map_cons, List.map_nil]); first | done | rfl | (simp only [List.length_drop, List.length_take]; rfl)) ?_; (with_reducible refine (impl_Get.calls kj4 t174 t175 1 t182 _ A15.out).mono ?_); rintro e w' ⟨rfl, ⟨nd, rfl⟩⟩; refine ⟨_, rfl, ?_⟩) | ((with_reducible refine gate_callee (f := 16) rfl ?_); refine goesL_ (some 58) rfl rfl Try.func16 (by kernel_rfl) rfl #[.string t174, .int .i64 (wrap64 (t175 + 1)), .int .i64 1] rfl (by (try simp only [List.map_toArray, List.map_cons, List.map_nil]); first | done | rfl | (simp only [List.length_drop, List.length_take]; rfl)) ?_; (with_reducible refine (impl_Get.calls kj4 t174 (wrap64 (t175 + 1)) 1 t183 _ A16.out).mono ?_); rintro e w' ⟨rfl, ⟨nd, rfl⟩⟩; refine ⟨_, rfl, ?_⟩) | (go_at_call 16; (with_reducible refine (impl_Get.calls kj4 t174 t175 2 t184 _ A18.out).mono ?_); rintro e w' ⟨rfl, ⟨nd, rfl⟩⟩) | (go_at_call 16; (with_reducible refine (impl_Get.calls kj4 t174 (wrap64 (t175 + 2)) 2 t185 _ A19.out).mono ?_); rintro e w' ⟨rfl, ⟨nd, rfl⟩⟩))
              go_ret
              exact ⟨by first | rfl | (simp [errW_none, errW_some] <;> rfl) | (simp [*, errW_none, errW_some] <;> rfl), by repeat (first | (with_reducible first | exact HB.out | apply below_alloc | apply pw_below_drewN | apply below_drew1) | exact HB.out)⟩
          · rw [if_neg c17] at H
            have c17b0 : (t181 == (wrap64 (t182 + (wrap64 (256 * t183))))) = false := beq_eq_false_iff_ne.mpr c17
            have c17b1 : (t181 != (wrap64 (t182 + (wrap64 (256 * t183))))) = true := bne_iff_ne.mpr c17
            obtain rfl := Option.some.inj H
            go_wp2_with (first | ((with_reducible refine gate_callee (f := 16) rfl ?_); refine goesL_ (some 48) rfl rfl Try.func16 (by kernel_rfl) rfl #[.string t174, .int .i64 t175, .int .i64 4] rfl (by (try simp only [List.map_toArray, List.map_cons, List.map_nil]); first | done | rfl | (simp only [List.length_drop, List.length_take]; rfl)) ?_; (with_reducible refine (impl_Get.calls kj4 t174 t175 4 t180 _ A13.out).mono ?_); rintro e w' ⟨rfl, ⟨nd, rfl⟩⟩; refine ⟨_, rfl, ?_⟩) | ((with_reducible refine gate_callee (f := 16) rfl ?_); refine goesL_ (some 51) rfl rfl Try.func16 (by kernel_rfl) rfl #[.string t174, .int .i64 t175, .int .i64 2] rfl (by (try simp only [List.map_toArray, List.map_cons, List.map_nil]); first | done | rfl | (simp only [List.length_drop, List.length_take]; rfl)) ?_; (with_reducible refine (impl_Get.calls kj4 t174 t175 2 t181 _ A14.out).mono ?_); rintro e w' ⟨rfl, ⟨nd, rfl⟩⟩; refine ⟨_, rfl, ?_⟩) | ((with_reducible refine gate_callee (f := 16) rfl ?_); refine goesL_ (some 54) rfl rfl Try.func16 (by kernel_rfl) rfl #[.string t174, .int .i64 t175, .int .i64 1] rfl (by (try simp only [List.map_toArray, List.map_cons, List.map_nil]); first | done | rfl | (simp only [List.length_drop, List.length_take]; rfl)) ?_; (with_reducible refine (impl_Get.calls kj4 t174 t175 1 t182 _ A15.out).mono ?_); rintro e w' ⟨rfl, ⟨nd, rfl⟩⟩; refine ⟨_, rfl, ?_⟩) | ((with_reducible refine gate_callee (f := 16) rfl ?_); refine goesL_ (some 58) rfl rfl Try.func16 (by kernel_rfl) rfl #[.string t174, .int .i64 (wrap64 (t175 + 1)), .int .i64 1] rfl (by (try simp only [List.map_toArray, List.map_cons, List.map_nil]); first | done | rfl | (simp only [List.length_drop, List.length_take]; rfl)) ?_; (with_reducible refine (impl_Get.calls kj4 t174 (wrap64 (t175 + 1)) 1 t183 _ A16.out).mono ?_); rintro e w' ⟨rfl, ⟨nd, rfl⟩⟩; refine ⟨_, rfl, ?_⟩))
            go_ret
            exact ⟨by first | rfl | (simp [errW_none, errW_some] <;> rfl) | (simp [*, errW_none, errW_some] <;> rfl), by repeat (first | (with_reducible first | exact HB.out | apply below_alloc | apply pw_below_drewN | apply below_drew1) | exact HB.out)⟩

/-- THE ONE PURE STATEMENT of laws_FnGetParts: yours. -/
def laws_FnGetParts.Pure : Prop := ∀ (l0 : List Int), l0.length ≤ maxLen → l0.length * 1 ≤ 140737488351232 → (∀ x ∈ l0, (Lit.int .u8 x).wf = true) → ∃ k, laws_FnGetParts.f k l0 = some true
theorem laws_FnGetParts.walk (P : laws_FnGetParts.Pure) (a0 : Option Addr) (len0 cap0 : Nat) (z0 : List Int) (w : World) (w0 : (a0 = none ∧ len0 = 0 ∧ cap0 = 0 ∧ z0 = []) ∨ ∃ x, a0 = some x ∧ len0 ≤ cap0 ∧ cap0 ≤ maxLen ∧ z0.length = cap0 ∧ (∀ i, i < z0.length → w.cell? (x.add i) = some (.int .u8 (z0.getD i 0))) ∧ ∀ n ∈ z0, (Lit.int .u8 n).wf = true) (y0 : len0 * 1 ≤ 140737488351232) :
    Calls Try.prog 3 #[.slice a0 len0 cap0] w fun e w' => e = .returned (.bool true) ∧ Below w.heap.size w w' := by
  obtain ⟨l0, rfl, hr0, hm0, hw0, hc0⟩ := ReadsInt.ofRowC w0
  obtain ⟨k, h⟩ := P l0 hm0 y0 hw0
  refine (laws_FnGetParts.calls k _ _ l0 true w (Kd.C_of_reads (d := (0 : Int)) (h1 := fun _ => rfl) hr0) hc0 h).mono ?_
  rintro e w' ⟨rfl, hd⟩
  exact ⟨rfl, hd⟩

end Go.Proofs.Ytfeodfgjpjddhaa.P
