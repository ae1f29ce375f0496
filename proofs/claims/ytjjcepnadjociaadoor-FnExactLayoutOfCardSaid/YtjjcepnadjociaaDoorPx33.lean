-- PRINTED by print.py (a twelfth state) out of the translation. Not trusted: Lean checks it.
import Derived.Test.YtjjcepnadjociaaDoorPx0
import Derived.Test.YtjjcepnadjociaaDoorPx10
import Derived.Test.YtjjcepnadjociaaDoorPx12
import Derived.Test.YtjjcepnadjociaaDoorPx15
import Derived.Test.YtjjcepnadjociaaDoorPx17
import Derived.Test.YtjjcepnadjociaaDoorPx19
import Derived.Test.YtjjcepnadjociaaDoorPx28
import Derived.Test.YtjjcepnadjociaaDoorPx29
import Derived.Test.YtjjcepnadjociaaDoorPx31
import Derived.Test.YtjjcepnadjociaaDoorPx32
namespace Go.Proofs.YtjjcepnadjociaaDoor.P
open Go.RowKit Go.Proofs.YtjjcepnadjociaaDoorW.PrintWords Go.Proofs.YtjjcepnadjociaaDoorW.PrintLast Go.Proofs.YtjjcepnadjociaaDoorW.PrintMore
attribute [local go_sem] max2_int min2_int max_two min_two max_three min_three max_four min_four   -- for this text's walks alone
set_option linter.unusedVariables false
set_option linter.unusedSimpArgs false

/-! ### laws_FnExactLayoutOf: function 10 -/
mutual
def laws_FnExactLayoutOf.j0 : Nat → List (S61) → Bool → List (S27) → Bool → Bool → Int → Int → List (S34) → Int → Int → Int → List (S34) → Int → Option (Bool)
  | 0, _, _, _, _, _, _, _, _, _, _, _, _, _ => none
  | k + 1, x0, x5, x6, x8, x40, x488000, x488001, x488002, x488003, x499000, x499001, x499002, x499003 => if x40 = true then (some false) else ((laws_toFieldS.f k x0).bind fun t500 => ((laws_eqFieldS.f k x6 t500).bind fun t503 => (if t503 = true then ((laws_markFieldS.f k x6 1).bind fun bt504 => (if bt504.1 < 0 then (laws_FnExactLayoutOf.j1 k x0 x5 true x488000 x488001 x488002 x488003 x499000 x499001 x499002 x499003) else ((laws_eqLayout.f k x499000 x499001 x499002 x499003 x488000 x488001 x488002 x488003).bind fun t506 => (if t506 = true then (laws_FnExactLayoutOf.j1 k x0 x5 (x8 != x5) x488000 x488001 x488002 x488003 x499000 x499001 x499002 x499003) else (laws_FnExactLayoutOf.j1 k x0 x5 true x488000 x488001 x488002 x488003 x499000 x499001 x499002 x499003))))) else (some false))))
def laws_FnExactLayoutOf.j1 : Nat → List (S61) → Bool → Bool → Int → Int → List (S34) → Int → Int → Int → List (S34) → Int → Option (Bool)
  | 0, _, _, _, _, _, _, _, _, _, _, _ => none
  | k + 1, x0, x5, x61, x488000, x488001, x488002, x488003, x499000, x499001, x499002, x499003 => if x61 = true then (some false) else ((laws_markLayout.f k x499000 x499001 x499002 x499003 1).bind fun bt507 => ((laws_heldLayout.f k x499000 x499001 bt507.2 x499003 1).bind fun t509 => (if t509 < 0 then (some false) else (if t509 = bt507.1 then ((laws_toFieldS.f k x0).bind fun t510 => ((impl_LayoutOf.f t510).bind fun bt513 => ((laws_eqLayout.f k bt513.1 bt513.2.1 bt513.2.2.1 bt513.2.2.2.1 x488000 x488001 x488002 x488003).bind fun t521 => (if t521 = true then (laws_FnExactLayoutOf.j2 k bt507.1 (bt513.2.2.2.2 != x5) x499000 x499001 bt507.2 x499003) else (laws_FnExactLayoutOf.j2 k bt507.1 true x499000 x499001 bt507.2 x499003))))) else (some false)))))
def laws_FnExactLayoutOf.j2 : Nat → Int → Bool → Int → Int → List (S34) → Int → Option (Bool)
  | 0, _, _, _, _, _, _ => none
  | k + 1, x10, x87, x499000, x499001, x499002, x499003 => if x87 = true then (some false) else ((laws_heldLayout.f k x499000 x499001 x499002 x499003 1).bind fun t522 => (if t522 < 0 then (some false) else (if t522 = x10 then (some true) else (some false))))
end
def laws_FnExactLayoutOf.f (k : Nat) (l0 : List (S61)) : Option (Bool) := (laws_szFieldS.f l0 1048576).bind fun t476 => (if t476 < 0 then (some true) else ((laws_toFieldS.f k l0).bind fun t477 => ((spec_LayoutOf.f k t477).bind fun bt480 => ((laws_toFieldS.f k l0).bind fun t488 => ((impl_LayoutOf.f t488).bind fun bt491 => ((laws_eqLayout.f k bt491.1 bt491.2.1 bt491.2.2.1 bt491.2.2.2.1 bt480.1 bt480.2.1 bt480.2.2.1 bt480.2.2.2.1).bind fun t499 => (if t499 = true then (laws_FnExactLayoutOf.j0 k l0 bt480.2.2.2.2 t488 bt491.2.2.2.2 (bt491.2.2.2.2 != bt480.2.2.2.2) bt480.1 bt480.2.1 bt480.2.2.1 bt480.2.2.2.1 bt491.1 bt491.2.1 bt491.2.2.1 bt491.2.2.2.1) else (laws_FnExactLayoutOf.j0 k l0 bt480.2.2.2.2 t488 bt491.2.2.2.2 true bt480.1 bt480.2.1 bt480.2.2.1 bt480.2.2.2.1 bt491.1 bt491.2.1 bt491.2.2.1 bt491.2.2.2.1))))))))
theorem laws_FnExactLayoutOf.mono_l : ∀ k, (∀ y0 y1 y2 y3 y4 y5 y6 y7 y8 y9 y10 y11 y12, LeO (laws_FnExactLayoutOf.j0 k y0 y1 y2 y3 y4 y5 y6 y7 y8 y9 y10 y11 y12) (laws_FnExactLayoutOf.j0 (k + 1) y0 y1 y2 y3 y4 y5 y6 y7 y8 y9 y10 y11 y12)) ∧ (∀ y0 y1 y2 y3 y4 y5 y6 y7 y8 y9 y10, LeO (laws_FnExactLayoutOf.j1 k y0 y1 y2 y3 y4 y5 y6 y7 y8 y9 y10) (laws_FnExactLayoutOf.j1 (k + 1) y0 y1 y2 y3 y4 y5 y6 y7 y8 y9 y10)) ∧ (∀ y0 y1 y2 y3 y4 y5, LeO (laws_FnExactLayoutOf.j2 k y0 y1 y2 y3 y4 y5) (laws_FnExactLayoutOf.j2 (k + 1) y0 y1 y2 y3 y4 y5))
  | 0 => ⟨fun _ _ _ _ _ _ _ _ _ _ _ _ _ r h => by simp [laws_FnExactLayoutOf.j0] at h, fun _ _ _ _ _ _ _ _ _ _ _ r h => by simp [laws_FnExactLayoutOf.j1] at h, fun _ _ _ _ _ _ r h => by simp [laws_FnExactLayoutOf.j2] at h⟩
  | k + 1 => by
    obtain ⟨ih0, ih1, ih2⟩ := laws_FnExactLayoutOf.mono_l k
    refine ⟨?_, ?_, ?_⟩
    · intro y0 y1 y2 y3 y4 y5 y6 y7 y8 y9 y10 y11 y12
      unfold laws_FnExactLayoutOf.j0
      repeat' first
      | (with_reducible exact ih0 _ _ _ _ _ _ _ _ _ _ _ _ _)
      | (with_reducible exact ih1 _ _ _ _ _ _ _ _ _ _ _)
      | (with_reducible exact ih2 _ _ _ _ _ _)
      | (with_reducible exact laws_eqFieldS.mono _ _ _)
      | (with_reducible exact laws_eqLayout.mono _ _ _ _ _ _ _ _ _)
      | (with_reducible exact laws_heldLayout.mono _ _ _ _ _ _)
      | (with_reducible exact laws_markFieldS.mono _ _ _)
      | (with_reducible exact laws_markLayout.mono _ _ _ _ _ _)
      | (with_reducible exact laws_toFieldS.mono _ _)
      | (with_reducible exact spec_LayoutOf.mono _ _)
      | (with_reducible exact LeO.refl _)
      | (with_reducible exact LeO.none _)
      | (with_reducible refine LeO.ite ?_ ?_)
      | (with_reducible refine LeO.bind ?_ (fun _ => ?_))
      | exact ih0 _ _ _ _ _ _ _ _ _ _ _ _ _
      | exact ih1 _ _ _ _ _ _ _ _ _ _ _
      | exact ih2 _ _ _ _ _ _
      | exact laws_eqFieldS.mono _ _ _
      | exact laws_eqLayout.mono _ _ _ _ _ _ _ _ _
      | exact laws_heldLayout.mono _ _ _ _ _ _
      | exact laws_markFieldS.mono _ _ _
      | exact laws_markLayout.mono _ _ _ _ _ _
      | exact laws_toFieldS.mono _ _
      | exact spec_LayoutOf.mono _ _
      | exact LeO.none _
      | refine LeO.ite ?_ ?_
      | refine LeO.bind ?_ (fun _ => ?_)
    · intro y0 y1 y2 y3 y4 y5 y6 y7 y8 y9 y10
      unfold laws_FnExactLayoutOf.j1
      repeat' first
      | (with_reducible exact ih0 _ _ _ _ _ _ _ _ _ _ _ _ _)
      | (with_reducible exact ih1 _ _ _ _ _ _ _ _ _ _ _)
      | (with_reducible exact ih2 _ _ _ _ _ _)
      | (with_reducible exact laws_eqFieldS.mono _ _ _)
      | (with_reducible exact laws_eqLayout.mono _ _ _ _ _ _ _ _ _)
      | (with_reducible exact laws_heldLayout.mono _ _ _ _ _ _)
      | (with_reducible exact laws_markFieldS.mono _ _ _)
      | (with_reducible exact laws_markLayout.mono _ _ _ _ _ _)
      | (with_reducible exact laws_toFieldS.mono _ _)
      | (with_reducible exact spec_LayoutOf.mono _ _)
      | (with_reducible exact LeO.refl _)
      | (with_reducible exact LeO.none _)
      | (with_reducible refine LeO.ite ?_ ?_)
      | (with_reducible refine LeO.bind ?_ (fun _ => ?_))
      | exact ih0 _ _ _ _ _ _ _ _ _ _ _ _ _
      | exact ih1 _ _ _ _ _ _ _ _ _ _ _
      | exact ih2 _ _ _ _ _ _
      | exact laws_eqFieldS.mono _ _ _
      | exact laws_eqLayout.mono _ _ _ _ _ _ _ _ _
      | exact laws_heldLayout.mono _ _ _ _ _ _
      | exact laws_markFieldS.mono _ _ _
      | exact laws_markLayout.mono _ _ _ _ _ _
      | exact laws_toFieldS.mono _ _
      | exact spec_LayoutOf.mono _ _
      | exact LeO.none _
      | refine LeO.ite ?_ ?_
      | refine LeO.bind ?_ (fun _ => ?_)
    · intro y0 y1 y2 y3 y4 y5
      unfold laws_FnExactLayoutOf.j2
      repeat' first
      | (with_reducible exact ih0 _ _ _ _ _ _ _ _ _ _ _ _ _)
      | (with_reducible exact ih1 _ _ _ _ _ _ _ _ _ _ _)
      | (with_reducible exact ih2 _ _ _ _ _ _)
      | (with_reducible exact laws_eqFieldS.mono _ _ _)
      | (with_reducible exact laws_eqLayout.mono _ _ _ _ _ _ _ _ _)
      | (with_reducible exact laws_heldLayout.mono _ _ _ _ _ _)
      | (with_reducible exact laws_markFieldS.mono _ _ _)
      | (with_reducible exact laws_markLayout.mono _ _ _ _ _ _)
      | (with_reducible exact laws_toFieldS.mono _ _)
      | (with_reducible exact spec_LayoutOf.mono _ _)
      | (with_reducible exact LeO.refl _)
      | (with_reducible exact LeO.none _)
      | (with_reducible refine LeO.ite ?_ ?_)
      | (with_reducible refine LeO.bind ?_ (fun _ => ?_))
      | exact ih0 _ _ _ _ _ _ _ _ _ _ _ _ _
      | exact ih1 _ _ _ _ _ _ _ _ _ _ _
      | exact ih2 _ _ _ _ _ _
      | exact laws_eqFieldS.mono _ _ _
      | exact laws_eqLayout.mono _ _ _ _ _ _ _ _ _
      | exact laws_heldLayout.mono _ _ _ _ _ _
      | exact laws_markFieldS.mono _ _ _
      | exact laws_markLayout.mono _ _ _ _ _ _
      | exact laws_toFieldS.mono _ _
      | exact spec_LayoutOf.mono _ _
      | exact LeO.none _
      | refine LeO.ite ?_ ?_
      | refine LeO.bind ?_ (fun _ => ?_)
theorem laws_FnExactLayoutOf.mono : ∀ a0 k, LeO (laws_FnExactLayoutOf.f k a0) (laws_FnExactLayoutOf.f (k + 1) a0) := by
  intro a0 k
  obtain ⟨ih0, ih1, ih2⟩ := laws_FnExactLayoutOf.mono_l k
  unfold laws_FnExactLayoutOf.f
  repeat' first
      | (with_reducible exact ih0 _ _ _ _ _ _ _ _ _ _ _ _ _)
      | (with_reducible exact ih1 _ _ _ _ _ _ _ _ _ _ _)
      | (with_reducible exact ih2 _ _ _ _ _ _)
      | (with_reducible exact laws_eqFieldS.mono _ _ _)
      | (with_reducible exact laws_eqLayout.mono _ _ _ _ _ _ _ _ _)
      | (with_reducible exact laws_heldLayout.mono _ _ _ _ _ _)
      | (with_reducible exact laws_markFieldS.mono _ _ _)
      | (with_reducible exact laws_markLayout.mono _ _ _ _ _ _)
      | (with_reducible exact laws_toFieldS.mono _ _)
      | (with_reducible exact spec_LayoutOf.mono _ _)
      | (with_reducible exact LeO.refl _)
      | (with_reducible exact LeO.none _)
      | (with_reducible refine LeO.ite ?_ ?_)
      | (with_reducible refine LeO.bind ?_ (fun _ => ?_))
      | exact ih0 _ _ _ _ _ _ _ _ _ _ _ _ _
      | exact ih1 _ _ _ _ _ _ _ _ _ _ _
      | exact ih2 _ _ _ _ _ _
      | exact laws_eqFieldS.mono _ _ _
      | exact laws_eqLayout.mono _ _ _ _ _ _ _ _ _
      | exact laws_heldLayout.mono _ _ _ _ _ _
      | exact laws_markFieldS.mono _ _ _
      | exact laws_markLayout.mono _ _ _ _ _ _
      | exact laws_toFieldS.mono _ _
      | exact spec_LayoutOf.mono _ _
      | exact LeO.none _
      | refine LeO.ite ?_ ?_
      | refine LeO.bind ?_ (fun _ => ?_)
set_option maxHeartbeats 8000000 in
set_option maxRecDepth 100000 in
theorem laws_FnExactLayoutOf.calls (k : Nat) (A0 : Option Addr) (c0 : Nat) (l0 : List (S61)) (r : Bool) (w : World) (hSB : SBw w) (hr0 : Kd.C k61 w A0 l0.length l0) (hc0 : l0.length ≤ c0) (h : laws_FnExactLayoutOf.f k l0 = some r) :
    Calls Tryd.prog 10 #[.slice A0 l0.length c0] w fun e w' => e = .returned (.bool r) ∧ Below w.heap.size w w' := by
  have hu30 := Tryd.underlying30
  have HR0 := Aside0.mk hr0
  have HC0 := Aside0.mk hc0
  clear hr0 hc0
  have HB := Aside0.mk (Below.refl w.heap.size w)
  have H : ((laws_szFieldS.f l0 1048576).bind fun t476 => (if t476 < 0 then (some true) else ((laws_toFieldS.f k l0).bind fun t477 => ((spec_LayoutOf.f k t477).bind fun bt480 => ((laws_toFieldS.f k l0).bind fun t488 => ((impl_LayoutOf.f t488).bind fun bt491 => ((laws_eqLayout.f k bt491.1 bt491.2.1 bt491.2.2.1 bt491.2.2.2.1 bt480.1 bt480.2.1 bt480.2.2.1 bt480.2.2.2.1).bind fun t499 => (if t499 = true then (laws_FnExactLayoutOf.j0 k l0 bt480.2.2.2.2 t488 bt491.2.2.2.2 (bt491.2.2.2.2 != bt480.2.2.2.2) bt480.1 bt480.2.1 bt480.2.2.1 bt480.2.2.2.1 bt491.1 bt491.2.1 bt491.2.2.1 bt491.2.2.2.1) else (laws_FnExactLayoutOf.j0 k l0 bt480.2.2.2.2 t488 bt491.2.2.2.2 true bt480.1 bt480.2.1 bt480.2.2.1 bt480.2.2.2.1 bt491.1 bt491.2.1 bt491.2.2.1 bt491.2.2.2.1))))))))) = some r := h
  clear h
  replace H := Option.bind_eq_some_iff.mp H
  obtain ⟨t476, A20, H⟩ := H
  replace H : (if t476 < 0 then (some true) else ((laws_toFieldS.f k l0).bind fun t477 => ((spec_LayoutOf.f k t477).bind fun bt480 => ((laws_toFieldS.f k l0).bind fun t488 => ((impl_LayoutOf.f t488).bind fun bt491 => ((laws_eqLayout.f k bt491.1 bt491.2.1 bt491.2.2.1 bt491.2.2.2.1 bt480.1 bt480.2.1 bt480.2.2.1 bt480.2.2.2.1).bind fun t499 => (if t499 = true then (laws_FnExactLayoutOf.j0 k l0 bt480.2.2.2.2 t488 bt491.2.2.2.2 (bt491.2.2.2.2 != bt480.2.2.2.2) bt480.1 bt480.2.1 bt480.2.2.1 bt480.2.2.2.1 bt491.1 bt491.2.1 bt491.2.2.1 bt491.2.2.2.1) else (laws_FnExactLayoutOf.j0 k l0 bt480.2.2.2.2 t488 bt491.2.2.2.2 true bt480.1 bt480.2.1 bt480.2.2.1 bt480.2.2.2.1 bt491.1 bt491.2.1 bt491.2.2.1 bt491.2.2.2.1)))))))) = some r := H
  have A2 := Aside0.mk A20
  clear A20
  by_cases c3 : t476 < 0
  · rw [if_pos c3] at H
    have c3b0 : decide (t476 < 0) = true := decide_eq_true c3
    clear c3
    obtain rfl := Option.some.inj H
    go_enter Tryd.func10, Tryd.ntmps10
    go_wp2_with (first | ((with_reducible refine gate_callee (f := 15) rfl ?_); refine goesL_ (some 16) rfl rfl Tryd.func15 (by kernel_rfl) rfl #[.slice A0 l0.length c0, .int .i64 1048576] rfl (by (try simp only [List.map_toArray, List.map_cons, List.map_nil]); first | done | rfl | (simp only [List.length_drop, List.length_take]; rfl)) ?_; (with_reducible refine (laws_szFieldS.calls _ _ l0 1048576 t476 _ ?side1 ?side2 A2.out).mono ?_); (case side1 => repeat (first | exact HR0.out | (with_reducible refine Kd.C_alloc ?_ _) | (with_reducible refine Kd.C_drewN ?_ _) | (with_reducible refine Kd.C_drew ?_))); (case side2 => exact HC0.out); rintro e w' ⟨rfl, ⟨nd, rfl⟩⟩; refine ⟨_, rfl, ?_⟩))
    go_ret
    exact ⟨by first | rfl | (simp [errW_none, errW_some] <;> rfl) | (simp [*, errW_none, errW_some] <;> rfl) | (simp only [Bool.and_eq_true, beq_iff_eq, Bool.not_eq_true', Bool.not_eq_eq_eq_not, Bool.not_true, Bool.not_false] at *; simp [*]), by repeat (first | (with_reducible first | exact HB.out | apply below_alloc | apply pw_below_drewN | apply below_drew1) | exact HB.out)⟩
  · rw [if_neg c3] at H
    have c3b0 : decide (t476 < 0) = false := decide_eq_false c3
    clear c3
    replace H := Option.bind_eq_some_iff.mp H
    obtain ⟨t477, A40, H⟩ := H
    replace H : ((spec_LayoutOf.f k t477).bind fun bt480 => ((laws_toFieldS.f k l0).bind fun t488 => ((impl_LayoutOf.f t488).bind fun bt491 => ((laws_eqLayout.f k bt491.1 bt491.2.1 bt491.2.2.1 bt491.2.2.2.1 bt480.1 bt480.2.1 bt480.2.2.1 bt480.2.2.2.1).bind fun t499 => (if t499 = true then (laws_FnExactLayoutOf.j0 k l0 bt480.2.2.2.2 t488 bt491.2.2.2.2 (bt491.2.2.2.2 != bt480.2.2.2.2) bt480.1 bt480.2.1 bt480.2.2.1 bt480.2.2.2.1 bt491.1 bt491.2.1 bt491.2.2.1 bt491.2.2.2.1) else (laws_FnExactLayoutOf.j0 k l0 bt480.2.2.2.2 t488 bt491.2.2.2.2 true bt480.1 bt480.2.1 bt480.2.2.1 bt480.2.2.2.1 bt491.1 bt491.2.1 bt491.2.2.1 bt491.2.2.2.1)))))) = some r := H
    have A4 := Aside0.mk A40
    clear A40
    replace H := Option.bind_eq_some_iff.mp H
    obtain ⟨⟨t480, t481, t482, t485, t486⟩, A50, H⟩ := H
    replace H : ((laws_toFieldS.f k l0).bind fun t488 => ((impl_LayoutOf.f t488).bind fun bt491 => ((laws_eqLayout.f k bt491.1 bt491.2.1 bt491.2.2.1 bt491.2.2.2.1 t480 t481 t482 t485).bind fun t499 => (if t499 = true then (laws_FnExactLayoutOf.j0 k l0 t486 t488 bt491.2.2.2.2 (bt491.2.2.2.2 != t486) t480 t481 t482 t485 bt491.1 bt491.2.1 bt491.2.2.1 bt491.2.2.2.1) else (laws_FnExactLayoutOf.j0 k l0 t486 t488 bt491.2.2.2.2 true t480 t481 t482 t485 bt491.1 bt491.2.1 bt491.2.2.1 bt491.2.2.2.1))))) = some r := H
    have A5 := Aside0.mk A50
    clear A50
    replace H := Option.bind_eq_some_iff.mp H
    obtain ⟨t488, A60, H⟩ := H
    replace H : ((impl_LayoutOf.f t488).bind fun bt491 => ((laws_eqLayout.f k bt491.1 bt491.2.1 bt491.2.2.1 bt491.2.2.2.1 t480 t481 t482 t485).bind fun t499 => (if t499 = true then (laws_FnExactLayoutOf.j0 k l0 t486 t488 bt491.2.2.2.2 (bt491.2.2.2.2 != t486) t480 t481 t482 t485 bt491.1 bt491.2.1 bt491.2.2.1 bt491.2.2.2.1) else (laws_FnExactLayoutOf.j0 k l0 t486 t488 bt491.2.2.2.2 true t480 t481 t482 t485 bt491.1 bt491.2.1 bt491.2.2.1 bt491.2.2.2.1)))) = some r := H
    have A6 := Aside0.mk A60
    clear A60
    replace H := Option.bind_eq_some_iff.mp H
    obtain ⟨⟨t491, t492, t493, t496, t497⟩, A70, H⟩ := H
    replace H : ((laws_eqLayout.f k t491 t492 t493 t496 t480 t481 t482 t485).bind fun t499 => (if t499 = true then (laws_FnExactLayoutOf.j0 k l0 t486 t488 t497 (t497 != t486) t480 t481 t482 t485 t491 t492 t493 t496) else (laws_FnExactLayoutOf.j0 k l0 t486 t488 t497 true t480 t481 t482 t485 t491 t492 t493 t496))) = some r := H
    have A7 := Aside0.mk A70
    clear A70
    have HC8 := Aside0.mk H
    clear H
    go_enter Tryd.func10, Tryd.ntmps10
    go_upto_region 8 with (first | ((with_reducible refine gate_callee (f := 15) rfl ?_); refine goesL_ (some 16) rfl rfl Tryd.func15 (by kernel_rfl) rfl #[.slice A0 l0.length c0, .int .i64 1048576] rfl (by (try simp only [List.map_toArray, List.map_cons, List.map_nil]); first | done | rfl | (simp only [List.length_drop, List.length_take]; rfl)) ?_; (with_reducible refine (laws_szFieldS.calls _ _ l0 1048576 t476 _ ?side1 ?side2 A2.out).mono ?_); (case side1 => repeat (first | exact HR0.out | (with_reducible refine Kd.C_alloc ?_ _) | (with_reducible refine Kd.C_drewN ?_ _) | (with_reducible refine Kd.C_drew ?_))); (case side2 => exact HC0.out); rintro e w' ⟨rfl, ⟨nd, rfl⟩⟩; refine ⟨_, rfl, ?_⟩) | ((with_reducible refine gate_callee (f := 17) rfl ?_); refine goesL_ (some 21) rfl rfl Tryd.func17 (by kernel_rfl) rfl #[.slice A0 l0.length c0] rfl (by (try simp only [List.map_toArray, List.map_cons, List.map_nil]); first | done | rfl | (simp only [List.length_drop, List.length_take]; rfl)) ?_; (with_reducible refine (laws_toFieldS.calls k _ _ l0 t477 _ ?side1 ?side2 A4.out).mono ?_); (case side1 => repeat (first | exact HR0.out | (with_reducible refine Kd.C_alloc ?_ _) | (with_reducible refine Kd.C_drewN ?_ _) | (with_reducible refine Kd.C_drew ?_))); (case side2 => exact HC0.out); rintro e w9 ⟨v478, rfl, ho0, hb⟩; refine ⟨_, rfl, ?_⟩; have n0_ := Aside0.mk (Kd.R_lower ho0 (below_size (by repeat (first | (with_reducible first | exact HB.out | apply below_alloc | apply pw_below_drewN | apply below_drew1) | exact HB.out)))); have n1_ := Aside0.mk (below_step (by repeat (first | (with_reducible first | exact HB.out | apply below_alloc | apply pw_below_drewN | apply below_drew1) | exact HB.out)) hb); clear HB; have HO479 := n0_; have HB := n1_; clear n0_ n1_; (try clear hb); (try clear hb2); (try clear hk); (try clear hi); (try clear ho0); obtain ⟨Ao10, co10, eo10⟩ := Kd.R_slice HO479.out; subst eo10) | ((with_reducible refine gate_callee (f := 21) rfl ?_); refine goesL_ (some 22) rfl rfl Tryd.func21 (by kernel_rfl) rfl #[.slice Ao10 t477.length co10] rfl (by (try simp only [List.map_toArray, List.map_cons, List.map_nil]); first | done | rfl | (simp only [List.length_drop, List.length_take]; rfl)) ?_; (with_reducible refine (spec_LayoutOf.calls k _ _ t477 t480 t481 t482 t485 t486 _ ?side1 ?side2 A5.out).mono ?_); (case side1 => repeat (first | exact (Kd.R_reads' HO479.out).2.2 | (with_reducible refine Kd.C_alloc ?_ _) | (with_reducible refine Kd.C_drewN ?_ _) | (with_reducible refine Kd.C_drew ?_))); (case side2 => exact (Kd.R_reads' HO479.out).2.1); rintro e w11 ⟨v483, rfl, ho0, hb⟩; refine ⟨_, rfl, ?_⟩; have n0_ := Aside0.mk (Kd.R_below (by (with_reducible repeat (first | apply Kd.R_alloc | apply Kd.R_drewN | apply Kd.R_drew)); exact HO479.out) hb); have n1_ := Aside0.mk (Kd.R_lower ho0 (below_size (by repeat (first | (with_reducible first | exact HB.out | apply below_alloc | apply pw_below_drewN | apply below_drew1) | exact HB.out)))); have n2_ := Aside0.mk (below_step (by repeat (first | (with_reducible first | exact HB.out | apply below_alloc | apply pw_below_drewN | apply below_drew1) | exact HB.out)) hb); clear HO479; clear HB; have HO479 := n0_; have HO484 := n1_; have HB := n2_; clear n0_ n1_ n2_; (try clear hb); (try clear hb2); (try clear hk); (try clear hi); (try clear ho0)) | ((with_reducible refine gate_dst (N := 4) rfl ?_); refine box_event ?hg (N := 4) ?hd (cs := #[.int .i64 0, .int .i64 0, .slice none 0 0, .int .i64 0]) (t := 30) ?hr ?_; (case hd => rfl); (case hg => rfl); (case hr => first | (go_simp; done) | (go_simp; rfl)); intro gb487 hg w12 hbox hb; have n0_ := Aside0.mk (Kd.R_below (by (with_reducible repeat (first | apply Kd.R_alloc | apply Kd.R_drewN | apply Kd.R_drew)); exact HO479.out) hb); have n1_ := Aside0.mk (Kd.R_below (by (with_reducible repeat (first | apply Kd.R_alloc | apply Kd.R_drewN | apply Kd.R_drew)); exact HO484.out) hb); have n2_ := Aside0.mk (below_step (by repeat (first | (with_reducible first | exact HB.out | apply below_alloc | apply pw_below_drewN | apply below_drew1) | exact HB.out)) hb); have n3_ := Aside0.mk (hbox); have n4_ := Aside0.mk ((by rw [hg]; exact (below_size (by repeat (first | (with_reducible first | exact HB.out | apply below_alloc | apply pw_below_drewN | apply below_drew1) | exact HB.out))) : w.heap.size ≤ gb487)); have n5_ := Aside0.mk ((by rw [hg]; exact (below_size (by repeat (first | (with_reducible first | exact HB.out | apply below_alloc | apply pw_below_drewN | apply below_drew1) | exact HB.out))) : w.heap.size ≤ gb487)); clear HO479; clear HO484; clear HB; have HO479 := n0_; have HO484 := n1_; have HB := n2_; have BK487 := n3_; have GW487 := n4_; have GE487 := n5_; clear n0_ n1_ n2_ n3_ n4_ n5_; clear hb hbox hg; have hcz13_0 : w12.cell? ⟨gb487, 0, none⟩ = some (.int .i64 0) := (blk_cell BK487.out 0).trans rfl; have hcz13_1 : w12.cell? ⟨gb487, 1, none⟩ = some (.int .i64 0) := (blk_cell BK487.out 1).trans rfl; have hcz13_2 : w12.cell? ⟨gb487, 2, none⟩ = some (.slice none 0 0) := (blk_cell BK487.out 2).trans rfl; have hcz13_3 : w12.cell? ⟨gb487, 3, none⟩ = some (.int .i64 0) := (blk_cell BK487.out 3).trans rfl; have hfz13_0 := blk_frozen BK487.out 0; have hfz13_1 := blk_frozen BK487.out 1; have hfz13_2 := blk_frozen BK487.out 2; have hfz13_3 := blk_frozen BK487.out 3; obtain ⟨Ao14, co14, eo14⟩ := Kd.R_slice HO484.out; subst eo14) | ((with_reducible refine gate_callee (f := 17) rfl ?_); refine goesL_ (some 26) rfl rfl Tryd.func17 (by kernel_rfl) rfl #[.slice A0 l0.length c0] rfl (by (try simp only [List.map_toArray, List.map_cons, List.map_nil]); first | done | rfl | (simp only [List.length_drop, List.length_take]; rfl)) ?_; (with_reducible refine (laws_toFieldS.calls k _ _ l0 t488 _ ?side1 ?side2 A6.out).mono ?_); (case side1 => exact Kd.C_below HR0.out (by repeat (first | (with_reducible first | exact HB.out | apply below_alloc | apply pw_below_drewN | apply below_drew1 | refine below_set ?_ GE487.out) | exact HB.out))); (case side2 => exact HC0.out); rintro e w15 ⟨v489, rfl, ho0, hb⟩; refine ⟨_, rfl, ?_⟩; have n0_ := Aside0.mk (Kd.R_elder' (by (with_reducible repeat (first | apply Kd.R_alloc | apply Kd.R_drewN | apply Kd.R_drew)); exact (Kd.R_mono (Kd.R_far (p := ⟨gb487, 3, none⟩) (Kd.R_far (p := ⟨gb487, 2, none⟩) (Kd.R_far (p := ⟨gb487, 1, none⟩) (Kd.R_far (p := ⟨gb487, 0, none⟩) (Kd.R_types HO479.out BK487.out (by decide)) (fun _ hk => hk.2) (.int .i64 t480)) (fun _ hk => hk.2) (.int .i64 t481)) (fun _ hk => hk.2) (.slice Ao14 t482.length co14)) (fun _ hk => hk.2) (.int .i64 t485)) (fun _ h_ => h_.1))) (Kd.R_base ho0) hb); have n1_ := Aside0.mk (Kd.R_below (by (with_reducible repeat (first | apply Kd.R_alloc | apply Kd.R_drewN | apply Kd.R_drew)); exact (Kd.R_mono (Kd.R_far (p := ⟨gb487, 3, none⟩) (Kd.R_far (p := ⟨gb487, 2, none⟩) (Kd.R_far (p := ⟨gb487, 1, none⟩) (Kd.R_far (p := ⟨gb487, 0, none⟩) (Kd.R_types HO484.out BK487.out (by decide)) (fun _ hk => hk.2) (.int .i64 t480)) (fun _ hk => hk.2) (.int .i64 t481)) (fun _ hk => hk.2) (.slice Ao14 t482.length co14)) (fun _ hk => hk.2) (.int .i64 t485)) (fun _ h_ => h_.1))) hb); have n2_ := Aside0.mk (Kd.R_lower (Kd.R_new' ho0 (Kd.R_lt (by (with_reducible repeat (first | apply Kd.R_alloc | apply Kd.R_drewN | apply Kd.R_drew)); exact (Kd.R_mono (Kd.R_far (p := ⟨gb487, 3, none⟩) (Kd.R_far (p := ⟨gb487, 2, none⟩) (Kd.R_far (p := ⟨gb487, 1, none⟩) (Kd.R_far (p := ⟨gb487, 0, none⟩) (Kd.R_types HO479.out BK487.out (by decide)) (fun _ hk => hk.2) (.int .i64 t480)) (fun _ hk => hk.2) (.int .i64 t481)) (fun _ hk => hk.2) (.slice Ao14 t482.length co14)) (fun _ hk => hk.2) (.int .i64 t485)) (fun _ h_ => h_.1))))) (below_size (by repeat (first | (with_reducible first | exact HB.out | apply below_alloc | apply pw_below_drewN | apply below_drew1 | refine below_set ?_ GE487.out) | exact HB.out)))); have n3_ := Aside0.mk (blk_below (g := gb487) (o := .cells #[.int .i64 t480, .int .i64 t481, .slice Ao14 t482.length co14, .int .i64 t485] 30 (0, 0)) (by (with_reducible repeat (first | refine blk_drewN ?_ _ | refine blk_drew ?_ | refine blk_alloc ?_ _)); refine blk_put (cs := #[.int .i64 t480, .int .i64 t481, .slice Ao14 t482.length co14, .int .i64 0]) ?_ 3 _ rfl; (with_reducible repeat (first | refine blk_drewN ?_ _ | refine blk_drew ?_ | refine blk_alloc ?_ _)); refine blk_put (cs := #[.int .i64 t480, .int .i64 t481, .slice none 0 0, .int .i64 0]) ?_ 2 _ rfl; (with_reducible repeat (first | refine blk_drewN ?_ _ | refine blk_drew ?_ | refine blk_alloc ?_ _)); refine blk_put (cs := #[.int .i64 t480, .int .i64 0, .slice none 0 0, .int .i64 0]) ?_ 1 _ rfl; (with_reducible repeat (first | refine blk_drewN ?_ _ | refine blk_drew ?_ | refine blk_alloc ?_ _)); refine blk_put (cs := #[.int .i64 0, .int .i64 0, .slice none 0 0, .int .i64 0]) ?_ 0 _ rfl; (with_reducible repeat (first | refine blk_drewN ?_ _ | refine blk_drew ?_ | refine blk_alloc ?_ _)); exact BK487.out) hb); have n4_ := Aside0.mk (below_step (by repeat (first | (with_reducible first | exact HB.out | apply below_alloc | apply pw_below_drewN | apply below_drew1 | refine below_set ?_ GE487.out) | exact HB.out)) hb); clear HO479; clear HO484; clear BK487; clear HB; have HO479 := n0_; have HO484 := n1_; have HO490 := n2_; have BK487 := n3_; have HB := n4_; clear n0_ n1_ n2_ n3_ n4_; (try clear hb); (try clear hb2); (try clear hk); (try clear hi); (try clear ho0); obtain ⟨Ao16, co16, eo16⟩ := Kd.R_slice HO490.out; subst eo16) | ((with_reducible refine gate_callee (f := 14) rfl ?_); refine goesL_ (some 29) rfl rfl Tryd.func14 (by kernel_rfl) rfl #[.slice Ao16 t488.length co16] rfl (by (try simp only [List.map_toArray, List.map_cons, List.map_nil]); first | done | rfl | (simp only [List.length_drop, List.length_take]; rfl)) ?_; (with_reducible refine (impl_LayoutOf.calls _ _ t488 t491 t492 t493 t496 t497 _ (hSB.mv (by repeat (first | (with_reducible first | exact HB.out | exact Below.refl _ _ | apply below_alloc | apply pw_below_drewN | apply below_drew1) | exact HB.out | exact Below.refl _ _))) ?side1 ?side2 A7.out).mono ?_); (case side1 => repeat (first | exact (Kd.R_reads' HO490.out).2.2 | (with_reducible refine Kd.C_alloc ?_ _) | (with_reducible refine Kd.C_drewN ?_ _) | (with_reducible refine Kd.C_drew ?_))); (case side2 => exact (Kd.R_reads' HO490.out).2.1); rintro e w17 ⟨v494, rfl, ho0, hb⟩; refine ⟨_, rfl, ?_⟩; have n0_ := Aside0.mk (Kd.R_below (by (with_reducible repeat (first | apply Kd.R_alloc | apply Kd.R_drewN | apply Kd.R_drew)); exact HO479.out) hb); have n1_ := Aside0.mk (Kd.R_elder' (by (with_reducible repeat (first | apply Kd.R_alloc | apply Kd.R_drewN | apply Kd.R_drew)); exact HO484.out) (Kd.R_base ho0) hb); have n2_ := Aside0.mk (Kd.R_below (by (with_reducible repeat (first | apply Kd.R_alloc | apply Kd.R_drewN | apply Kd.R_drew)); exact HO490.out) hb); have n3_ := Aside0.mk (Kd.R_lower (Kd.R_new' ho0 (Kd.R_lt (by (with_reducible repeat (first | apply Kd.R_alloc | apply Kd.R_drewN | apply Kd.R_drew)); exact HO484.out))) (below_size (by repeat (first | (with_reducible first | exact HB.out | apply below_alloc | apply pw_below_drewN | apply below_drew1 | refine below_set ?_ GE487.out) | exact HB.out)))); have n4_ := Aside0.mk (blk_below (g := gb487) (o := .cells #[.int .i64 t480, .int .i64 t481, .slice Ao14 t482.length co14, .int .i64 t485] 30 (0, 0)) (by (with_reducible repeat (first | refine blk_drewN ?_ _ | refine blk_drew ?_ | refine blk_alloc ?_ _)); exact BK487.out) hb); have n5_ := Aside0.mk (below_step (by repeat (first | (with_reducible first | exact HB.out | apply below_alloc | apply pw_below_drewN | apply below_drew1 | refine below_set ?_ GE487.out) | exact HB.out)) hb); clear HO479; clear HO484; clear HO490; clear BK487; clear HB; have HO479 := n0_; have HO484 := n1_; have HO490 := n2_; have HO495 := n3_; have BK487 := n4_; have HB := n5_; clear n0_ n1_ n2_ n3_ n4_ n5_; (try clear hb); (try clear hb2); (try clear hk); (try clear hi); (try clear ho0)) | ((with_reducible refine gate_dst (N := 7) rfl ?_); refine box_event ?hg (N := 7) ?hd (cs := #[.int .i64 0, .int .i64 0, .slice none 0 0, .int .i64 0]) (t := 30) ?hr ?_; (case hd => rfl); (case hg => rfl); (case hr => first | (go_simp; done) | (go_simp; rfl)); intro gb498 hg w18 hbox hb; have n0_ := Aside0.mk (Kd.R_below (by (with_reducible repeat (first | apply Kd.R_alloc | apply Kd.R_drewN | apply Kd.R_drew)); exact HO479.out) hb); have n1_ := Aside0.mk (Kd.R_below (by (with_reducible repeat (first | apply Kd.R_alloc | apply Kd.R_drewN | apply Kd.R_drew)); exact HO484.out) hb); have n2_ := Aside0.mk (Kd.R_below (by (with_reducible repeat (first | apply Kd.R_alloc | apply Kd.R_drewN | apply Kd.R_drew)); exact HO490.out) hb); have n3_ := Aside0.mk (Kd.R_below (by (with_reducible repeat (first | apply Kd.R_alloc | apply Kd.R_drewN | apply Kd.R_drew)); exact HO495.out) hb); have n4_ := Aside0.mk (blk_below (g := gb487) (o := .cells #[.int .i64 t480, .int .i64 t481, .slice Ao14 t482.length co14, .int .i64 t485] 30 (0, 0)) (by (with_reducible repeat (first | refine blk_drewN ?_ _ | refine blk_drew ?_ | refine blk_alloc ?_ _)); exact BK487.out) hb); have n5_ := Aside0.mk (below_step (by repeat (first | (with_reducible first | exact HB.out | apply below_alloc | apply pw_below_drewN | apply below_drew1 | refine below_set ?_ GE487.out) | exact HB.out)) hb); have n6_ := Aside0.mk (hbox); have n7_ := Aside0.mk ((by rw [hg]; exact (below_size (by repeat (first | (with_reducible first | exact HB.out | apply below_alloc | apply pw_below_drewN | apply below_drew1 | refine below_set ?_ GE487.out) | exact HB.out))) : w.heap.size ≤ gb498)); have n8_ := Aside0.mk ((by rw [hg]; exact (below_size (by repeat (first | (with_reducible first | exact HB.out | apply below_alloc | apply pw_below_drewN | apply below_drew1 | refine below_set ?_ GE487.out) | exact HB.out))) : w.heap.size ≤ gb498)); have n9_ := Aside0.mk ((by rw [hg]; exact Nat.ne_of_lt (blk_lt (g := gb487) (o := .cells #[.int .i64 t480, .int .i64 t481, .slice Ao14 t482.length co14, .int .i64 t485] 30 (0, 0)) (by (with_reducible repeat (first | refine blk_drewN ?_ _ | refine blk_drew ?_ | refine blk_alloc ?_ _)); exact BK487.out)) : gb487 ≠ gb498)); have n10_ := Aside0.mk ((by rw [hg]; exact Nat.ne_of_gt (blk_lt (g := gb487) (o := .cells #[.int .i64 t480, .int .i64 t481, .slice Ao14 t482.length co14, .int .i64 t485] 30 (0, 0)) (by (with_reducible repeat (first | refine blk_drewN ?_ _ | refine blk_drew ?_ | refine blk_alloc ?_ _)); exact BK487.out)) : gb498 ≠ gb487)); clear HO479; clear HO484; clear HO490; clear HO495; clear BK487; clear HB; have HO479 := n0_; have HO484 := n1_; have HO490 := n2_; have HO495 := n3_; have BK487 := n4_; have HB := n5_; have BK498 := n6_; have GW498 := n7_; have GE498 := n8_; have NB487_498 := n9_; have NB498_487 := n10_; clear n0_ n1_ n2_ n3_ n4_ n5_ n6_ n7_ n8_ n9_ n10_; clear hb hbox hg; have hnb19 := NB498_487.out; have hnc19 := NB487_498.out; have hcz20_0 : w18.cell? ⟨gb498, 0, none⟩ = some (.int .i64 0) := (blk_cell BK498.out 0).trans rfl; have hcz20_1 : w18.cell? ⟨gb498, 1, none⟩ = some (.int .i64 0) := (blk_cell BK498.out 1).trans rfl; have hcz20_2 : w18.cell? ⟨gb498, 2, none⟩ = some (.slice none 0 0) := (blk_cell BK498.out 2).trans rfl; have hcz20_3 : w18.cell? ⟨gb498, 3, none⟩ = some (.int .i64 0) := (blk_cell BK498.out 3).trans rfl; have hfz20_0 := blk_frozen BK498.out 0; have hfz20_1 := blk_frozen BK498.out 1; have hfz20_2 := blk_frozen BK498.out 2; have hfz20_3 := blk_frozen BK498.out 3; obtain ⟨Ao21, co21, eo21⟩ := Kd.R_slice HO495.out; subst eo21))
    (try simp only [Act.put, List.setIfInBounds_toArray, List.set_cons_zero, List.set_cons_succ])
    go_cut [40] (fun v40 wc => ∃ (kq : Nat) (x40_7 : Bool), v40 = .bool x40_7 ∧ Aside0 (laws_FnExactLayoutOf.j0 kq l0 t486 t488 t497 x40_7 t480 t481 t482 t485 t491 t492 t493 t496 = some r) ∧ Aside0 (kq ≤ k) ∧ Aside0 (Kd.R k27 27 wc w.heap.size (fun _ => True) (.slice Ao16 t488.length co16) t488) ∧ Aside0 (Kd.R k34 34 wc w.heap.size (fun k_ => some k_ ≠ ((.slice Ao21 t493.length co21) : Value).ownBlock) (.slice Ao14 t482.length co14) t482) ∧ Aside0 (Kd.R k34 34 wc w.heap.size (fun k_ => some k_ ≠ ((.slice Ao14 t482.length co14) : Value).ownBlock) (.slice Ao21 t493.length co21) t493) ∧ Aside0 (wc.heap[gb487]? = some (.cells #[.int .i64 t480, .int .i64 t481, (.slice Ao14 t482.length co14), .int .i64 t485] 30 (0, 0))) ∧ Aside0 (wc.heap[gb498]? = some (.cells #[.int .i64 t491, .int .i64 t492, (.slice Ao21 t493.length co21), .int .i64 t496] 30 (0, 0))) ∧ Aside0 (Below w.heap.size w wc))
    case first =>
      have H := HC8.out
      clear HC8
      replace H := Option.bind_eq_some_iff.mp H
      obtain ⟨t499, A220, H⟩ := H
      replace H : (if t499 = true then (laws_FnExactLayoutOf.j0 k l0 t486 t488 t497 (t497 != t486) t480 t481 t482 t485 t491 t492 t493 t496) else (laws_FnExactLayoutOf.j0 k l0 t486 t488 t497 true t480 t481 t482 t485 t491 t492 t493 t496)) = some r := H
      have A22 := Aside0.mk A220
      clear A220
      by_cases c23 : t499 = true
      · subst c23
        have H1 : (laws_FnExactLayoutOf.j0 k l0 t486 t488 t497 (t497 != t486) t480 t481 t482 t485 t491 t492 t493 t496) = some r := by rw [if_pos rfl] at H; exact H
        clear H
        have H := H1
        clear H1
        have H' := Aside0.mk H
        clear H
        have hnb24 := NB498_487.out
        have hnc24 := NB487_498.out
        have hcz25_0 : w18.cell? ⟨gb498, 0, none⟩ = some (.int .i64 0) := (blk_cell BK498.out 0).trans rfl
        have hcz25_1 : w18.cell? ⟨gb498, 1, none⟩ = some (.int .i64 0) := (blk_cell BK498.out 1).trans rfl
        have hcz25_2 : w18.cell? ⟨gb498, 2, none⟩ = some (.slice none 0 0) := (blk_cell BK498.out 2).trans rfl
        have hcz25_3 : w18.cell? ⟨gb498, 3, none⟩ = some (.int .i64 0) := (blk_cell BK498.out 3).trans rfl
        have hfz25_0 := blk_frozen BK498.out 0
        have hfz25_1 := blk_frozen BK498.out 1
        have hfz25_2 := blk_frozen BK498.out 2
        have hfz25_3 := blk_frozen BK498.out 3
        have hcz26_0 : w18.cell? ⟨gb487, 0, none⟩ = some (.int .i64 t480) := (blk_cell BK487.out 0).trans rfl
        have hcz26_1 : w18.cell? ⟨gb487, 1, none⟩ = some (.int .i64 t481) := (blk_cell BK487.out 1).trans rfl
        have hcz26_2 : w18.cell? ⟨gb487, 2, none⟩ = some (.slice Ao14 t482.length co14) := (blk_cell BK487.out 2).trans rfl
        have hcz26_3 : w18.cell? ⟨gb487, 3, none⟩ = some (.int .i64 t485) := (blk_cell BK487.out 3).trans rfl
        have hfz26_0 := blk_frozen BK487.out 0
        have hfz26_1 := blk_frozen BK487.out 1
        have hfz26_2 := blk_frozen BK487.out 2
        have hfz26_3 := blk_frozen BK487.out 3
        go_wp2_with (first | ((with_reducible refine gate_callee (f := 24) rfl ?_); refine goesL_ (some 34) rfl rfl Tryd.func24 (by kernel_rfl) rfl #[.agg #[.int .i64 t491, .int .i64 t492, .slice Ao21 t493.length co21, .int .i64 t496], .agg #[.int .i64 t480, .int .i64 t481, .slice Ao14 t482.length co14, .int .i64 t485]] rfl (by (try simp only [List.map_toArray, List.map_cons, List.map_nil]); first | done | rfl | (simp only [List.length_drop, List.length_take]; rfl)) ?_; (with_reducible refine (laws_eqLayout.calls k t491 t492 _ _ t493 t496 t480 t481 _ _ t482 t485 true _ ?side1 ?side2 ?side3 ?side4 A22.out).mono ?_); (case side1 => refine (Kd.R_reads' (e := 34) (base := w.heap.size) (ok := fun k_ => (True ∧ some k_ ≠ (.slice Ao14 t482.length co14 : Value).ownBlock)) (n := t493.length) (c := co21) ?_).2.2; exact (by (with_reducible repeat (first | apply Kd.R_alloc | apply Kd.R_drewN | apply Kd.R_drew)); exact (Kd.R_mono (Kd.R_far (p := ⟨gb498, 3, none⟩) (Kd.R_far (p := ⟨gb498, 2, none⟩) (Kd.R_far (p := ⟨gb498, 1, none⟩) (Kd.R_far (p := ⟨gb498, 0, none⟩) (Kd.R_types HO495.out BK498.out (by decide)) (fun _ hk => hk.2) (.int .i64 t491)) (fun _ hk => hk.2) (.int .i64 t492)) (fun _ hk => hk.2) (.slice Ao21 t493.length co21)) (fun _ hk => hk.2) (.int .i64 t496)) (fun _ h_ => h_.1)))); (case side2 => exact (Kd.R_reads' HO495.out).2.1); (case side3 => refine (Kd.R_reads' (e := 34) (base := w.heap.size) (ok := fun k_ => (True ∧ some k_ ≠ (.slice Ao21 t493.length co21 : Value).ownBlock)) (n := t482.length) (c := co14) ?_).2.2; exact (by (with_reducible repeat (first | apply Kd.R_alloc | apply Kd.R_drewN | apply Kd.R_drew)); exact (Kd.R_mono (Kd.R_far (p := ⟨gb498, 3, none⟩) (Kd.R_far (p := ⟨gb498, 2, none⟩) (Kd.R_far (p := ⟨gb498, 1, none⟩) (Kd.R_far (p := ⟨gb498, 0, none⟩) (Kd.R_types HO484.out BK498.out (by decide)) (fun _ hk => hk.2) (.int .i64 t491)) (fun _ hk => hk.2) (.int .i64 t492)) (fun _ hk => hk.2) (.slice Ao21 t493.length co21)) (fun _ hk => hk.2) (.int .i64 t496)) (fun _ h_ => h_.1)))); (case side4 => exact (Kd.R_reads' HO484.out).2.1); rintro e w27 ⟨rfl, hb⟩; refine ⟨_, rfl, ?_⟩; have n0_ := Aside0.mk (Kd.R_below (by (with_reducible repeat (first | apply Kd.R_alloc | apply Kd.R_drewN | apply Kd.R_drew)); exact (Kd.R_mono (Kd.R_far (p := ⟨gb498, 3, none⟩) (Kd.R_far (p := ⟨gb498, 2, none⟩) (Kd.R_far (p := ⟨gb498, 1, none⟩) (Kd.R_far (p := ⟨gb498, 0, none⟩) (Kd.R_types HO479.out BK498.out (by decide)) (fun _ hk => hk.2) (.int .i64 t491)) (fun _ hk => hk.2) (.int .i64 t492)) (fun _ hk => hk.2) (.slice Ao21 t493.length co21)) (fun _ hk => hk.2) (.int .i64 t496)) (fun _ h_ => h_.1))) hb); have n1_ := Aside0.mk (Kd.R_below (by (with_reducible repeat (first | apply Kd.R_alloc | apply Kd.R_drewN | apply Kd.R_drew)); exact (Kd.R_mono (Kd.R_far (p := ⟨gb498, 3, none⟩) (Kd.R_far (p := ⟨gb498, 2, none⟩) (Kd.R_far (p := ⟨gb498, 1, none⟩) (Kd.R_far (p := ⟨gb498, 0, none⟩) (Kd.R_types HO484.out BK498.out (by decide)) (fun _ hk => hk.2) (.int .i64 t491)) (fun _ hk => hk.2) (.int .i64 t492)) (fun _ hk => hk.2) (.slice Ao21 t493.length co21)) (fun _ hk => hk.2) (.int .i64 t496)) (fun _ h_ => h_.1))) hb); have n2_ := Aside0.mk (Kd.R_below (by (with_reducible repeat (first | apply Kd.R_alloc | apply Kd.R_drewN | apply Kd.R_drew)); exact (Kd.R_mono (Kd.R_far (p := ⟨gb498, 3, none⟩) (Kd.R_far (p := ⟨gb498, 2, none⟩) (Kd.R_far (p := ⟨gb498, 1, none⟩) (Kd.R_far (p := ⟨gb498, 0, none⟩) (Kd.R_types HO490.out BK498.out (by decide)) (fun _ hk => hk.2) (.int .i64 t491)) (fun _ hk => hk.2) (.int .i64 t492)) (fun _ hk => hk.2) (.slice Ao21 t493.length co21)) (fun _ hk => hk.2) (.int .i64 t496)) (fun _ h_ => h_.1))) hb); have n3_ := Aside0.mk (Kd.R_below (by (with_reducible repeat (first | apply Kd.R_alloc | apply Kd.R_drewN | apply Kd.R_drew)); exact (Kd.R_mono (Kd.R_far (p := ⟨gb498, 3, none⟩) (Kd.R_far (p := ⟨gb498, 2, none⟩) (Kd.R_far (p := ⟨gb498, 1, none⟩) (Kd.R_far (p := ⟨gb498, 0, none⟩) (Kd.R_types HO495.out BK498.out (by decide)) (fun _ hk => hk.2) (.int .i64 t491)) (fun _ hk => hk.2) (.int .i64 t492)) (fun _ hk => hk.2) (.slice Ao21 t493.length co21)) (fun _ hk => hk.2) (.int .i64 t496)) (fun _ h_ => h_.1))) hb); have n4_ := Aside0.mk (blk_below (g := gb487) (o := .cells #[.int .i64 t480, .int .i64 t481, .slice Ao14 t482.length co14, .int .i64 t485] 30 (0, 0)) (by (with_reducible repeat (first | refine blk_drewN ?_ _ | refine blk_drew ?_ | refine blk_alloc ?_ _)); refine blk_far ?_ NB487_498.out _; (with_reducible repeat (first | refine blk_drewN ?_ _ | refine blk_drew ?_ | refine blk_alloc ?_ _)); refine blk_far ?_ NB487_498.out _; (with_reducible repeat (first | refine blk_drewN ?_ _ | refine blk_drew ?_ | refine blk_alloc ?_ _)); refine blk_far ?_ NB487_498.out _; (with_reducible repeat (first | refine blk_drewN ?_ _ | refine blk_drew ?_ | refine blk_alloc ?_ _)); refine blk_far ?_ NB487_498.out _; (with_reducible repeat (first | refine blk_drewN ?_ _ | refine blk_drew ?_ | refine blk_alloc ?_ _)); exact BK487.out) hb); have n5_ := Aside0.mk (blk_below (g := gb498) (o := .cells #[.int .i64 t491, .int .i64 t492, .slice Ao21 t493.length co21, .int .i64 t496] 30 (0, 0)) (by (with_reducible repeat (first | refine blk_drewN ?_ _ | refine blk_drew ?_ | refine blk_alloc ?_ _)); refine blk_put (cs := #[.int .i64 t491, .int .i64 t492, .slice Ao21 t493.length co21, .int .i64 0]) ?_ 3 _ rfl; (with_reducible repeat (first | refine blk_drewN ?_ _ | refine blk_drew ?_ | refine blk_alloc ?_ _)); refine blk_put (cs := #[.int .i64 t491, .int .i64 t492, .slice none 0 0, .int .i64 0]) ?_ 2 _ rfl; (with_reducible repeat (first | refine blk_drewN ?_ _ | refine blk_drew ?_ | refine blk_alloc ?_ _)); refine blk_put (cs := #[.int .i64 t491, .int .i64 0, .slice none 0 0, .int .i64 0]) ?_ 1 _ rfl; (with_reducible repeat (first | refine blk_drewN ?_ _ | refine blk_drew ?_ | refine blk_alloc ?_ _)); refine blk_put (cs := #[.int .i64 0, .int .i64 0, .slice none 0 0, .int .i64 0]) ?_ 0 _ rfl; (with_reducible repeat (first | refine blk_drewN ?_ _ | refine blk_drew ?_ | refine blk_alloc ?_ _)); exact BK498.out) hb); have n6_ := Aside0.mk (below_step (by repeat (first | (with_reducible first | exact HB.out | apply below_alloc | apply pw_below_drewN | apply below_drew1 | refine below_set ?_ GE487.out | refine below_set ?_ GE498.out) | exact HB.out)) hb); clear HO479; clear HO484; clear HO490; clear HO495; clear BK487; clear BK498; clear HB; have HO479 := n0_; have HO484 := n1_; have HO490 := n2_; have HO495 := n3_; have BK487 := n4_; have BK498 := n5_; have HB := n6_; clear n0_ n1_ n2_ n3_ n4_ n5_ n6_; (try clear hb); (try clear hb2); (try clear hk); (try clear hi)))
        go_meet
        case rel => exact ⟨_, ((t497 != t486)), (by first | rfl | (simp; done) | (simp [*]; done)), H', ⟨by first | omega | exact Nat.le_refl _⟩, ⟨by (with_reducible repeat (first | apply Kd.R_alloc | apply Kd.R_drewN | apply Kd.R_drew)); exact Kd.R_mono HO490.out (fun _ hk => trivial)⟩, ⟨by (with_reducible repeat (first | apply Kd.R_alloc | apply Kd.R_drewN | apply Kd.R_drew)); exact Kd.R_mono HO484.out (fun _ hk => hk.2)⟩, ⟨by (with_reducible repeat (first | apply Kd.R_alloc | apply Kd.R_drewN | apply Kd.R_drew)); exact Kd.R_mono HO495.out (fun _ hk => hk.2)⟩, ⟨by (with_reducible repeat (first | refine blk_drewN ?_ _ | refine blk_drew ?_ | refine blk_alloc ?_ _)); exact BK487.out⟩, ⟨by (with_reducible repeat (first | refine blk_drewN ?_ _ | refine blk_drew ?_ | refine blk_alloc ?_ _)); exact BK498.out⟩, ⟨by repeat (first | (with_reducible first | exact HB.out | apply below_alloc | apply pw_below_drewN | apply below_drew1 | refine below_set ?_ GE487.out | refine below_set ?_ GE498.out) | exact HB.out)⟩⟩
      · replace c23 := Bool.eq_false_iff.mpr c23
        subst c23
        have H1 : (laws_FnExactLayoutOf.j0 k l0 t486 t488 t497 true t480 t481 t482 t485 t491 t492 t493 t496) = some r := by rw [if_neg (show ¬ (false = true) by decide)] at H; exact H
        clear H
        have H := H1
        clear H1
        have H' := Aside0.mk H
        clear H
        have hnb28 := NB498_487.out
        have hnc28 := NB487_498.out
        have hcz29_0 : w18.cell? ⟨gb498, 0, none⟩ = some (.int .i64 0) := (blk_cell BK498.out 0).trans rfl
        have hcz29_1 : w18.cell? ⟨gb498, 1, none⟩ = some (.int .i64 0) := (blk_cell BK498.out 1).trans rfl
        have hcz29_2 : w18.cell? ⟨gb498, 2, none⟩ = some (.slice none 0 0) := (blk_cell BK498.out 2).trans rfl
        have hcz29_3 : w18.cell? ⟨gb498, 3, none⟩ = some (.int .i64 0) := (blk_cell BK498.out 3).trans rfl
        have hfz29_0 := blk_frozen BK498.out 0
        have hfz29_1 := blk_frozen BK498.out 1
        have hfz29_2 := blk_frozen BK498.out 2
        have hfz29_3 := blk_frozen BK498.out 3
        have hcz30_0 : w18.cell? ⟨gb487, 0, none⟩ = some (.int .i64 t480) := (blk_cell BK487.out 0).trans rfl
        have hcz30_1 : w18.cell? ⟨gb487, 1, none⟩ = some (.int .i64 t481) := (blk_cell BK487.out 1).trans rfl
        have hcz30_2 : w18.cell? ⟨gb487, 2, none⟩ = some (.slice Ao14 t482.length co14) := (blk_cell BK487.out 2).trans rfl
        have hcz30_3 : w18.cell? ⟨gb487, 3, none⟩ = some (.int .i64 t485) := (blk_cell BK487.out 3).trans rfl
        have hfz30_0 := blk_frozen BK487.out 0
        have hfz30_1 := blk_frozen BK487.out 1
        have hfz30_2 := blk_frozen BK487.out 2
        have hfz30_3 := blk_frozen BK487.out 3
        go_wp2_with (first | ((with_reducible refine gate_callee (f := 24) rfl ?_); refine goesL_ (some 34) rfl rfl Tryd.func24 (by kernel_rfl) rfl #[.agg #[.int .i64 t491, .int .i64 t492, .slice Ao21 t493.length co21, .int .i64 t496], .agg #[.int .i64 t480, .int .i64 t481, .slice Ao14 t482.length co14, .int .i64 t485]] rfl (by (try simp only [List.map_toArray, List.map_cons, List.map_nil]); first | done | rfl | (simp only [List.length_drop, List.length_take]; rfl)) ?_; (with_reducible refine (laws_eqLayout.calls k t491 t492 _ _ t493 t496 t480 t481 _ _ t482 t485 false _ ?side1 ?side2 ?side3 ?side4 A22.out).mono ?_); (case side1 => refine (Kd.R_reads' (e := 34) (base := w.heap.size) (ok := fun k_ => (True ∧ some k_ ≠ (.slice Ao14 t482.length co14 : Value).ownBlock)) (n := t493.length) (c := co21) ?_).2.2; exact (by (with_reducible repeat (first | apply Kd.R_alloc | apply Kd.R_drewN | apply Kd.R_drew)); exact (Kd.R_mono (Kd.R_far (p := ⟨gb498, 3, none⟩) (Kd.R_far (p := ⟨gb498, 2, none⟩) (Kd.R_far (p := ⟨gb498, 1, none⟩) (Kd.R_far (p := ⟨gb498, 0, none⟩) (Kd.R_types HO495.out BK498.out (by decide)) (fun _ hk => hk.2) (.int .i64 t491)) (fun _ hk => hk.2) (.int .i64 t492)) (fun _ hk => hk.2) (.slice Ao21 t493.length co21)) (fun _ hk => hk.2) (.int .i64 t496)) (fun _ h_ => h_.1)))); (case side2 => exact (Kd.R_reads' HO495.out).2.1); (case side3 => refine (Kd.R_reads' (e := 34) (base := w.heap.size) (ok := fun k_ => (True ∧ some k_ ≠ (.slice Ao21 t493.length co21 : Value).ownBlock)) (n := t482.length) (c := co14) ?_).2.2; exact (by (with_reducible repeat (first | apply Kd.R_alloc | apply Kd.R_drewN | apply Kd.R_drew)); exact (Kd.R_mono (Kd.R_far (p := ⟨gb498, 3, none⟩) (Kd.R_far (p := ⟨gb498, 2, none⟩) (Kd.R_far (p := ⟨gb498, 1, none⟩) (Kd.R_far (p := ⟨gb498, 0, none⟩) (Kd.R_types HO484.out BK498.out (by decide)) (fun _ hk => hk.2) (.int .i64 t491)) (fun _ hk => hk.2) (.int .i64 t492)) (fun _ hk => hk.2) (.slice Ao21 t493.length co21)) (fun _ hk => hk.2) (.int .i64 t496)) (fun _ h_ => h_.1)))); (case side4 => exact (Kd.R_reads' HO484.out).2.1); rintro e w31 ⟨rfl, hb⟩; refine ⟨_, rfl, ?_⟩; have n0_ := Aside0.mk (Kd.R_below (by (with_reducible repeat (first | apply Kd.R_alloc | apply Kd.R_drewN | apply Kd.R_drew)); exact (Kd.R_mono (Kd.R_far (p := ⟨gb498, 3, none⟩) (Kd.R_far (p := ⟨gb498, 2, none⟩) (Kd.R_far (p := ⟨gb498, 1, none⟩) (Kd.R_far (p := ⟨gb498, 0, none⟩) (Kd.R_types HO479.out BK498.out (by decide)) (fun _ hk => hk.2) (.int .i64 t491)) (fun _ hk => hk.2) (.int .i64 t492)) (fun _ hk => hk.2) (.slice Ao21 t493.length co21)) (fun _ hk => hk.2) (.int .i64 t496)) (fun _ h_ => h_.1))) hb); have n1_ := Aside0.mk (Kd.R_below (by (with_reducible repeat (first | apply Kd.R_alloc | apply Kd.R_drewN | apply Kd.R_drew)); exact (Kd.R_mono (Kd.R_far (p := ⟨gb498, 3, none⟩) (Kd.R_far (p := ⟨gb498, 2, none⟩) (Kd.R_far (p := ⟨gb498, 1, none⟩) (Kd.R_far (p := ⟨gb498, 0, none⟩) (Kd.R_types HO484.out BK498.out (by decide)) (fun _ hk => hk.2) (.int .i64 t491)) (fun _ hk => hk.2) (.int .i64 t492)) (fun _ hk => hk.2) (.slice Ao21 t493.length co21)) (fun _ hk => hk.2) (.int .i64 t496)) (fun _ h_ => h_.1))) hb); have n2_ := Aside0.mk (Kd.R_below (by (with_reducible repeat (first | apply Kd.R_alloc | apply Kd.R_drewN | apply Kd.R_drew)); exact (Kd.R_mono (Kd.R_far (p := ⟨gb498, 3, none⟩) (Kd.R_far (p := ⟨gb498, 2, none⟩) (Kd.R_far (p := ⟨gb498, 1, none⟩) (Kd.R_far (p := ⟨gb498, 0, none⟩) (Kd.R_types HO490.out BK498.out (by decide)) (fun _ hk => hk.2) (.int .i64 t491)) (fun _ hk => hk.2) (.int .i64 t492)) (fun _ hk => hk.2) (.slice Ao21 t493.length co21)) (fun _ hk => hk.2) (.int .i64 t496)) (fun _ h_ => h_.1))) hb); have n3_ := Aside0.mk (Kd.R_below (by (with_reducible repeat (first | apply Kd.R_alloc | apply Kd.R_drewN | apply Kd.R_drew)); exact (Kd.R_mono (Kd.R_far (p := ⟨gb498, 3, none⟩) (Kd.R_far (p := ⟨gb498, 2, none⟩) (Kd.R_far (p := ⟨gb498, 1, none⟩) (Kd.R_far (p := ⟨gb498, 0, none⟩) (Kd.R_types HO495.out BK498.out (by decide)) (fun _ hk => hk.2) (.int .i64 t491)) (fun _ hk => hk.2) (.int .i64 t492)) (fun _ hk => hk.2) (.slice Ao21 t493.length co21)) (fun _ hk => hk.2) (.int .i64 t496)) (fun _ h_ => h_.1))) hb); have n4_ := Aside0.mk (blk_below (g := gb487) (o := .cells #[.int .i64 t480, .int .i64 t481, .slice Ao14 t482.length co14, .int .i64 t485] 30 (0, 0)) (by (with_reducible repeat (first | refine blk_drewN ?_ _ | refine blk_drew ?_ | refine blk_alloc ?_ _)); refine blk_far ?_ NB487_498.out _; (with_reducible repeat (first | refine blk_drewN ?_ _ | refine blk_drew ?_ | refine blk_alloc ?_ _)); refine blk_far ?_ NB487_498.out _; (with_reducible repeat (first | refine blk_drewN ?_ _ | refine blk_drew ?_ | refine blk_alloc ?_ _)); refine blk_far ?_ NB487_498.out _; (with_reducible repeat (first | refine blk_drewN ?_ _ | refine blk_drew ?_ | refine blk_alloc ?_ _)); refine blk_far ?_ NB487_498.out _; (with_reducible repeat (first | refine blk_drewN ?_ _ | refine blk_drew ?_ | refine blk_alloc ?_ _)); exact BK487.out) hb); have n5_ := Aside0.mk (blk_below (g := gb498) (o := .cells #[.int .i64 t491, .int .i64 t492, .slice Ao21 t493.length co21, .int .i64 t496] 30 (0, 0)) (by (with_reducible repeat (first | refine blk_drewN ?_ _ | refine blk_drew ?_ | refine blk_alloc ?_ _)); refine blk_put (cs := #[.int .i64 t491, .int .i64 t492, .slice Ao21 t493.length co21, .int .i64 0]) ?_ 3 _ rfl; (with_reducible repeat (first | refine blk_drewN ?_ _ | refine blk_drew ?_ | refine blk_alloc ?_ _)); refine blk_put (cs := #[.int .i64 t491, .int .i64 t492, .slice none 0 0, .int .i64 0]) ?_ 2 _ rfl; (with_reducible repeat (first | refine blk_drewN ?_ _ | refine blk_drew ?_ | refine blk_alloc ?_ _)); refine blk_put (cs := #[.int .i64 t491, .int .i64 0, .slice none 0 0, .int .i64 0]) ?_ 1 _ rfl; (with_reducible repeat (first | refine blk_drewN ?_ _ | refine blk_drew ?_ | refine blk_alloc ?_ _)); refine blk_put (cs := #[.int .i64 0, .int .i64 0, .slice none 0 0, .int .i64 0]) ?_ 0 _ rfl; (with_reducible repeat (first | refine blk_drewN ?_ _ | refine blk_drew ?_ | refine blk_alloc ?_ _)); exact BK498.out) hb); have n6_ := Aside0.mk (below_step (by repeat (first | (with_reducible first | exact HB.out | apply below_alloc | apply pw_below_drewN | apply below_drew1 | refine below_set ?_ GE487.out | refine below_set ?_ GE498.out) | exact HB.out)) hb); clear HO479; clear HO484; clear HO490; clear HO495; clear BK487; clear BK498; clear HB; have HO479 := n0_; have HO484 := n1_; have HO490 := n2_; have HO495 := n3_; have BK487 := n4_; have BK498 := n5_; have HB := n6_; clear n0_ n1_ n2_ n3_ n4_ n5_ n6_; (try clear hb); (try clear hb2); (try clear hk); (try clear hi)))
        go_meet
        case rel => exact ⟨_, (true), (by first | rfl | (simp; done) | (simp [*]; done)), H', ⟨by first | omega | exact Nat.le_refl _⟩, ⟨by (with_reducible repeat (first | apply Kd.R_alloc | apply Kd.R_drewN | apply Kd.R_drew)); exact Kd.R_mono HO490.out (fun _ hk => trivial)⟩, ⟨by (with_reducible repeat (first | apply Kd.R_alloc | apply Kd.R_drewN | apply Kd.R_drew)); exact Kd.R_mono HO484.out (fun _ hk => hk.2)⟩, ⟨by (with_reducible repeat (first | apply Kd.R_alloc | apply Kd.R_drewN | apply Kd.R_drew)); exact Kd.R_mono HO495.out (fun _ hk => hk.2)⟩, ⟨by (with_reducible repeat (first | refine blk_drewN ?_ _ | refine blk_drew ?_ | refine blk_alloc ?_ _)); exact BK487.out⟩, ⟨by (with_reducible repeat (first | refine blk_drewN ?_ _ | refine blk_drew ?_ | refine blk_alloc ?_ _)); exact BK498.out⟩, ⟨by repeat (first | (with_reducible first | exact HB.out | apply below_alloc | apply pw_below_drewN | apply below_drew1 | refine below_set ?_ GE487.out | refine below_set ?_ GE498.out) | exact HB.out)⟩⟩
    case rest =>
      clear HC8
      try clear c1
      try clear c2
      try clear p2
      try clear c3
      try clear c3b0
      try clear c10
      try clear c14
      try clear c15
      try clear c17
      try clear c19
      try clear c21
      try clear c23
      try clear c24
      try clear c28
      try clear hcz13_0
      try clear hcz13_1
      try clear hcz13_2
      try clear hcz13_3
      try clear hcz20_0
      try clear hcz20_1
      try clear hcz20_2
      try clear hcz20_3
      try clear hcz25_0
      try clear hcz25_1
      try clear hcz25_2
      try clear hcz25_3
      try clear hcz26_0
      try clear hcz26_1
      try clear hcz26_2
      try clear hcz26_3
      try clear hcz29_0
      try clear hcz29_1
      try clear hcz29_2
      try clear hcz29_3
      try clear hcz30_0
      try clear hcz30_1
      try clear hcz30_2
      try clear hcz30_3
      try clear hfz13_0
      try clear hfz13_1
      try clear hfz13_2
      try clear hfz13_3
      try clear hfz20_0
      try clear hfz20_1
      try clear hfz20_2
      try clear hfz20_3
      try clear hfz25_0
      try clear hfz25_1
      try clear hfz25_2
      try clear hfz25_3
      try clear hfz26_0
      try clear hfz26_1
      try clear hfz26_2
      try clear hfz26_3
      try clear hfz29_0
      try clear hfz29_1
      try clear hfz29_2
      try clear hfz29_3
      try clear hfz30_0
      try clear hfz30_1
      try clear hfz30_2
      try clear hfz30_3
      obtain ⟨kq, x40_7, rfl, HA, HJ7, HO_6, HO_488002, HO_499002, BK487, BK498, HB⟩ := hcut
      cases kq with
      | zero => exact absurd HA.out (by simp [laws_FnExactLayoutOf.j0])
      | succ kj7 =>
        have H := HA.out
        clear HA
        simp only [laws_FnExactLayoutOf.j0] at H
        by_cases c32 : x40_7 = true
        · subst c32
          have H1 : (some false) = some r := by rw [if_pos rfl] at H; exact H
          clear H
          have H := H1
          clear H1
          obtain rfl := Option.some.inj H
          go_wp2
          go_ret
          exact ⟨by first | rfl | (simp [errW_none, errW_some] <;> rfl) | (simp [*, errW_none, errW_some] <;> rfl) | (simp only [Bool.and_eq_true, beq_iff_eq, Bool.not_eq_true', Bool.not_eq_eq_eq_not, Bool.not_true, Bool.not_false] at *; simp [*]), by repeat (first | (with_reducible first | exact HB.out | apply below_alloc | apply pw_below_drewN | apply below_drew1 | refine below_set ?_ GE487.out | refine below_set ?_ GE498.out) | exact HB.out)⟩
        · replace c32 := Bool.eq_false_iff.mpr c32
          subst c32
          have H1 : ((laws_toFieldS.f kj7 l0).bind fun t500 => ((laws_eqFieldS.f kj7 t488 t500).bind fun t503 => (if t503 = true then ((laws_markFieldS.f kj7 t488 1).bind fun bt504 => (if bt504.1 < 0 then (laws_FnExactLayoutOf.j1 kj7 l0 t486 true t480 t481 t482 t485 t491 t492 t493 t496) else ((laws_eqLayout.f kj7 t491 t492 t493 t496 t480 t481 t482 t485).bind fun t506 => (if t506 = true then (laws_FnExactLayoutOf.j1 kj7 l0 t486 (t497 != t486) t480 t481 t482 t485 t491 t492 t493 t496) else (laws_FnExactLayoutOf.j1 kj7 l0 t486 true t480 t481 t482 t485 t491 t492 t493 t496))))) else (some false)))) = some r := by rw [if_neg (show ¬ (false = true) by decide)] at H; exact H
          clear H
          have H := H1
          clear H1
          replace H := Option.bind_eq_some_iff.mp H
          obtain ⟨t500, A330, H⟩ := H
          replace H : ((laws_eqFieldS.f kj7 t488 t500).bind fun t503 => (if t503 = true then ((laws_markFieldS.f kj7 t488 1).bind fun bt504 => (if bt504.1 < 0 then (laws_FnExactLayoutOf.j1 kj7 l0 t486 true t480 t481 t482 t485 t491 t492 t493 t496) else ((laws_eqLayout.f kj7 t491 t492 t493 t496 t480 t481 t482 t485).bind fun t506 => (if t506 = true then (laws_FnExactLayoutOf.j1 kj7 l0 t486 (t497 != t486) t480 t481 t482 t485 t491 t492 t493 t496) else (laws_FnExactLayoutOf.j1 kj7 l0 t486 true t480 t481 t482 t485 t491 t492 t493 t496))))) else (some false))) = some r := H
          have A33 := Aside0.mk A330
          clear A330
          replace H := Option.bind_eq_some_iff.mp H
          obtain ⟨t503, A340, H⟩ := H
          replace H : (if t503 = true then ((laws_markFieldS.f kj7 t488 1).bind fun bt504 => (if bt504.1 < 0 then (laws_FnExactLayoutOf.j1 kj7 l0 t486 true t480 t481 t482 t485 t491 t492 t493 t496) else ((laws_eqLayout.f kj7 t491 t492 t493 t496 t480 t481 t482 t485).bind fun t506 => (if t506 = true then (laws_FnExactLayoutOf.j1 kj7 l0 t486 (t497 != t486) t480 t481 t482 t485 t491 t492 t493 t496) else (laws_FnExactLayoutOf.j1 kj7 l0 t486 true t480 t481 t482 t485 t491 t492 t493 t496))))) else (some false)) = some r := H
          have A34 := Aside0.mk A340
          clear A340
          by_cases c35 : t503 = true
          · subst c35
            have H1 : ((laws_markFieldS.f kj7 t488 1).bind fun bt504 => (if bt504.1 < 0 then (laws_FnExactLayoutOf.j1 kj7 l0 t486 true t480 t481 t482 t485 t491 t492 t493 t496) else ((laws_eqLayout.f kj7 t491 t492 t493 t496 t480 t481 t482 t485).bind fun t506 => (if t506 = true then (laws_FnExactLayoutOf.j1 kj7 l0 t486 (t497 != t486) t480 t481 t482 t485 t491 t492 t493 t496) else (laws_FnExactLayoutOf.j1 kj7 l0 t486 true t480 t481 t482 t485 t491 t492 t493 t496))))) = some r := by rw [if_pos rfl] at H; exact H
            clear H
            have H := H1
            clear H1
            replace H := Option.bind_eq_some_iff.mp H
            obtain ⟨⟨t504, t505⟩, A360, H⟩ := H
            replace H : (if t504 < 0 then (laws_FnExactLayoutOf.j1 kj7 l0 t486 true t480 t481 t482 t485 t491 t492 t493 t496) else ((laws_eqLayout.f kj7 t491 t492 t493 t496 t480 t481 t482 t485).bind fun t506 => (if t506 = true then (laws_FnExactLayoutOf.j1 kj7 l0 t486 (t497 != t486) t480 t481 t482 t485 t491 t492 t493 t496) else (laws_FnExactLayoutOf.j1 kj7 l0 t486 true t480 t481 t482 t485 t491 t492 t493 t496)))) = some r := H
            have A36 := Aside0.mk A360
            clear A360
            have HC37 := Aside0.mk H
            clear H
            go_upto_region 14 with (first | ((with_reducible refine gate_callee (f := 17) rfl ?_); refine goesL_ (some 43) rfl rfl Tryd.func17 (by kernel_rfl) rfl #[.slice A0 l0.length c0] rfl (by (try simp only [List.map_toArray, List.map_cons, List.map_nil]); first | done | rfl | (simp only [List.length_drop, List.length_take]; rfl)) ?_; (with_reducible refine (laws_toFieldS.calls kj7 _ _ l0 t500 _ ?side1 ?side2 A33.out).mono ?_); (case side1 => repeat (first | exact (Kd.C_below HR0.out HB.out) | (with_reducible refine Kd.C_alloc ?_ _) | (with_reducible refine Kd.C_drewN ?_ _) | (with_reducible refine Kd.C_drew ?_))); (case side2 => exact HC0.out); rintro e w38 ⟨v501, rfl, ho0, hb⟩; refine ⟨_, rfl, ?_⟩; have n0_ := Aside0.mk (Kd.R_elder' (by (with_reducible repeat (first | apply Kd.R_alloc | apply Kd.R_drewN | apply Kd.R_drew)); exact HO_6.out) (Kd.R_base ho0) hb); have n1_ := Aside0.mk (Kd.R_below (by (with_reducible repeat (first | apply Kd.R_alloc | apply Kd.R_drewN | apply Kd.R_drew)); exact HO_488002.out) hb); have n2_ := Aside0.mk (Kd.R_below (by (with_reducible repeat (first | apply Kd.R_alloc | apply Kd.R_drewN | apply Kd.R_drew)); exact HO_499002.out) hb); have n3_ := Aside0.mk (Kd.R_lower (Kd.R_new' ho0 (Kd.R_lt (by (with_reducible repeat (first | apply Kd.R_alloc | apply Kd.R_drewN | apply Kd.R_drew)); exact HO_6.out))) (below_size (by repeat (first | (with_reducible first | exact HB.out | apply below_alloc | apply pw_below_drewN | apply below_drew1 | refine below_set ?_ GE487.out | refine below_set ?_ GE498.out) | exact HB.out)))); have n4_ := Aside0.mk (blk_below (g := gb487) (o := .cells #[.int .i64 t480, .int .i64 t481, .slice Ao14 t482.length co14, .int .i64 t485] 30 (0, 0)) (by (with_reducible repeat (first | refine blk_drewN ?_ _ | refine blk_drew ?_ | refine blk_alloc ?_ _)); exact BK487.out) hb); have n5_ := Aside0.mk (blk_below (g := gb498) (o := .cells #[.int .i64 t491, .int .i64 t492, .slice Ao21 t493.length co21, .int .i64 t496] 30 (0, 0)) (by (with_reducible repeat (first | refine blk_drewN ?_ _ | refine blk_drew ?_ | refine blk_alloc ?_ _)); exact BK498.out) hb); have n6_ := Aside0.mk (below_step (by repeat (first | (with_reducible first | exact HB.out | apply below_alloc | apply pw_below_drewN | apply below_drew1 | refine below_set ?_ GE487.out | refine below_set ?_ GE498.out) | exact HB.out)) hb); clear HO_6; clear HO_488002; clear HO_499002; clear BK487; clear BK498; clear HB; have HO_6 := n0_; have HO_488002 := n1_; have HO_499002 := n2_; have HO502 := n3_; have BK487 := n4_; have BK498 := n5_; have HB := n6_; clear n0_ n1_ n2_ n3_ n4_ n5_ n6_; (try clear hb); (try clear hb2); (try clear hk); (try clear hi); (try clear ho0); obtain ⟨Ao39, co39, eo39⟩ := Kd.R_slice HO502.out; subst eo39) | ((with_reducible refine gate_callee (f := 19) rfl ?_); refine goesL_ (some 44) rfl rfl Tryd.func19 (by kernel_rfl) rfl #[.slice Ao16 t488.length co16, .slice Ao39 t500.length co39] rfl (by (try simp only [List.map_toArray, List.map_cons, List.map_nil]); first | done | rfl | (simp only [List.length_drop, List.length_take]; rfl)) ?_; (with_reducible refine (laws_eqFieldS.calls kj7 _ _ t488 _ _ t500 true _ ?side1 ?side2 ?side3 ?side4 A34.out).mono ?_); (case side1 => repeat (first | exact (Kd.R_reads' HO_6.out).2.2 | (with_reducible refine Kd.C_alloc ?_ _) | (with_reducible refine Kd.C_drewN ?_ _) | (with_reducible refine Kd.C_drew ?_))); (case side2 => exact (Kd.R_reads' HO_6.out).2.1); (case side3 => repeat (first | exact (Kd.R_reads' HO502.out).2.2 | (with_reducible refine Kd.C_alloc ?_ _) | (with_reducible refine Kd.C_drewN ?_ _) | (with_reducible refine Kd.C_drew ?_))); (case side4 => exact (Kd.R_reads' HO502.out).2.1); rintro e w40 ⟨rfl, hb⟩; refine ⟨_, rfl, ?_⟩; have n0_ := Aside0.mk (Kd.R_below (by (with_reducible repeat (first | apply Kd.R_alloc | apply Kd.R_drewN | apply Kd.R_drew)); exact HO_6.out) hb); have n1_ := Aside0.mk (Kd.R_below (by (with_reducible repeat (first | apply Kd.R_alloc | apply Kd.R_drewN | apply Kd.R_drew)); exact HO_488002.out) hb); have n2_ := Aside0.mk (Kd.R_below (by (with_reducible repeat (first | apply Kd.R_alloc | apply Kd.R_drewN | apply Kd.R_drew)); exact HO_499002.out) hb); have n3_ := Aside0.mk (Kd.R_below (by (with_reducible repeat (first | apply Kd.R_alloc | apply Kd.R_drewN | apply Kd.R_drew)); exact HO502.out) hb); have n4_ := Aside0.mk (blk_below (g := gb487) (o := .cells #[.int .i64 t480, .int .i64 t481, .slice Ao14 t482.length co14, .int .i64 t485] 30 (0, 0)) (by (with_reducible repeat (first | refine blk_drewN ?_ _ | refine blk_drew ?_ | refine blk_alloc ?_ _)); exact BK487.out) hb); have n5_ := Aside0.mk (blk_below (g := gb498) (o := .cells #[.int .i64 t491, .int .i64 t492, .slice Ao21 t493.length co21, .int .i64 t496] 30 (0, 0)) (by (with_reducible repeat (first | refine blk_drewN ?_ _ | refine blk_drew ?_ | refine blk_alloc ?_ _)); exact BK498.out) hb); have n6_ := Aside0.mk (below_step (by repeat (first | (with_reducible first | exact HB.out | apply below_alloc | apply pw_below_drewN | apply below_drew1 | refine below_set ?_ GE487.out | refine below_set ?_ GE498.out) | exact HB.out)) hb); clear HO_6; clear HO_488002; clear HO_499002; clear HO502; clear BK487; clear BK498; clear HB; have HO_6 := n0_; have HO_488002 := n1_; have HO_499002 := n2_; have HO502 := n3_; have BK487 := n4_; have BK498 := n5_; have HB := n6_; clear n0_ n1_ n2_ n3_ n4_ n5_ n6_; (try clear hb); (try clear hb2); (try clear hk); (try clear hi)) | ((with_reducible refine gate_callee (f := 25) rfl ?_); refine goesL_ (some 48) rfl rfl Tryd.func25 (by kernel_rfl) rfl #[.slice Ao16 t488.length co16, .int .i64 1] rfl (by (try simp only [List.map_toArray, List.map_cons, List.map_nil]); first | done | rfl | (simp only [List.length_drop, List.length_take]; rfl)) ?_; (with_reducible refine (laws_markFieldS.calls kj7 (fun k_ => some k_ = (.slice Ao16 t488.length co16 : Value).ownBlock) (.slice Ao16 t488.length co16) t488 1 t504 t505 w _ ?side1 ?side2 A36.out).mono ?_); (case side1 => repeat (first | (with_reducible first | exact HB.out | apply below_alloc | apply pw_below_drewN | apply below_drew1 | refine below_set ?_ GE487.out | refine below_set ?_ GE498.out) | exact HB.out)); (case side2 => exact Kd.R_tight rfl HO_6.out); rintro e w41 ⟨rfl, hy0, hb, hkp⟩; refine ⟨_, rfl, ?_⟩; have n0_ := Aside0.mk (Kd.R_reok rfl hy0 (fun k_ e_ => HO_6.out.1 k_ e_)); have n1_ := Aside0.mk (Kd.R_mono (ok' := fun k_ => some k_ ≠ (.slice Ao21 t493.length co21 : Value).ownBlock) (Kd.R_keptB ((Kd.R_apart' HO_488002.out (Kd.R_typed HO_6.out) (by decide))) hkp (fun k_ hk_ hs_ => (hk_.2) hs_)) (fun k_ hk_ => hk_.1.1)); have n2_ := Aside0.mk (Kd.R_mono (ok' := fun k_ => some k_ ≠ (.slice Ao14 t482.length co14 : Value).ownBlock) (Kd.R_keptB ((Kd.R_apart' HO_499002.out (Kd.R_typed HO_6.out) (by decide))) hkp (fun k_ hk_ hs_ => (hk_.2) hs_)) (fun k_ hk_ => hk_.1.1)); have n3_ := Aside0.mk (blk_kept (by (with_reducible repeat (first | refine blk_drewN ?_ _ | refine blk_drew ?_ | refine blk_alloc ?_ _)); exact BK487.out) hkp (fun hs_ => (fun e_ => (Kd.R_ne HO_6.out BK487.out (by decide)) e_) hs_)); have n4_ := Aside0.mk (blk_kept (by (with_reducible repeat (first | refine blk_drewN ?_ _ | refine blk_drew ?_ | refine blk_alloc ?_ _)); exact BK498.out) hkp (fun hs_ => (fun e_ => (Kd.R_ne HO_6.out BK498.out (by decide)) e_) hs_)); have n5_ := Aside0.mk (Kd.R_mono (ok' := fun k_ => some k_ ≠ (.slice Ao16 t488.length co16 : Value).ownBlock) (Kd.R_keptB (HO502.out) hkp (fun k_ hk_ hs_ => (hk_.2) hs_)) (fun k_ hk_ => hk_.1.2)); have n6_ := Aside0.mk (hb); clear HO_6; clear HO_488002; clear HO_499002; clear BK487; clear BK498; clear HO502; clear HB; have HO_6 := n0_; have HO_488002 := n1_; have HO_499002 := n2_; have BK487 := n3_; have BK498 := n4_; have HO502 := n5_; have HB := n6_; clear n0_ n1_ n2_ n3_ n4_ n5_ n6_; (try clear hb); (try clear hkp); (try clear hy0)))
            (try simp only [Act.put, List.setIfInBounds_toArray, List.set_cons_zero, List.set_cons_succ])
            go_cut [61] (fun v61 wc => ∃ (kq : Nat) (x61_36 : Bool), v61 = .bool x61_36 ∧ Aside0 (laws_FnExactLayoutOf.j1 kq l0 t486 x61_36 t480 t481 t482 t485 t491 t492 t493 t496 = some r) ∧ Aside0 (kq ≤ kj7) ∧ Aside0 (Kd.R k34 34 wc w.heap.size (fun k_ => some k_ ≠ ((.slice Ao21 t493.length co21) : Value).ownBlock) (.slice Ao14 t482.length co14) t482) ∧ Aside0 (Kd.R k34 34 wc w.heap.size (fun k_ => some k_ ≠ ((.slice Ao14 t482.length co14) : Value).ownBlock) (.slice Ao21 t493.length co21) t493) ∧ Aside0 (wc.heap[gb487]? = some (.cells #[.int .i64 t480, .int .i64 t481, (.slice Ao14 t482.length co14), .int .i64 t485] 30 (0, 0))) ∧ Aside0 (wc.heap[gb498]? = some (.cells #[.int .i64 t491, .int .i64 t492, (.slice Ao21 t493.length co21), .int .i64 t496] 30 (0, 0))) ∧ Aside0 (Below w.heap.size w wc))
            case first =>
              have H := HC37.out
              clear HC37
              by_cases c42 : t504 < 0
              · rw [if_pos c42] at H
                have c42b0 : decide (t504 < 0) = true := decide_eq_true c42
                clear c42
                (first | rw [c42b0] | (simp only [i64_w, i32_w]; rw [c42b0]) | skip)
                have H' := Aside0.mk H
                clear H
                go_wp2
                go_meet
                case rel => exact ⟨_, (true), (by first | rfl | (simp; done) | (simp [*]; done)), H', ⟨by have := HJ7.out; first | omega | exact Nat.le_refl _⟩, ⟨by (with_reducible repeat (first | apply Kd.R_alloc | apply Kd.R_drewN | apply Kd.R_drew)); exact HO_488002.out⟩, ⟨by (with_reducible repeat (first | apply Kd.R_alloc | apply Kd.R_drewN | apply Kd.R_drew)); exact HO_499002.out⟩, ⟨by (with_reducible repeat (first | refine blk_drewN ?_ _ | refine blk_drew ?_ | refine blk_alloc ?_ _)); exact BK487.out⟩, ⟨by (with_reducible repeat (first | refine blk_drewN ?_ _ | refine blk_drew ?_ | refine blk_alloc ?_ _)); exact BK498.out⟩, ⟨by repeat (first | (with_reducible first | exact HB.out | apply below_alloc | apply pw_below_drewN | apply below_drew1 | refine below_set ?_ GE487.out | refine below_set ?_ GE498.out) | exact HB.out)⟩⟩
              · rw [if_neg c42] at H
                have c42b0 : decide (t504 < 0) = false := decide_eq_false c42
                clear c42
                (first | rw [c42b0] | (simp only [i64_w, i32_w]; rw [c42b0]) | skip)
                replace H := Option.bind_eq_some_iff.mp H
                obtain ⟨t506, A430, H⟩ := H
                replace H : (if t506 = true then (laws_FnExactLayoutOf.j1 kj7 l0 t486 (t497 != t486) t480 t481 t482 t485 t491 t492 t493 t496) else (laws_FnExactLayoutOf.j1 kj7 l0 t486 true t480 t481 t482 t485 t491 t492 t493 t496)) = some r := H
                have A43 := Aside0.mk A430
                clear A430
                by_cases c44 : t506 = true
                · subst c44
                  have H1 : (laws_FnExactLayoutOf.j1 kj7 l0 t486 (t497 != t486) t480 t481 t482 t485 t491 t492 t493 t496) = some r := by rw [if_pos rfl] at H; exact H
                  clear H
                  have H := H1
                  clear H1
                  have H' := Aside0.mk H
                  clear H
                  have hnb45 := NB498_487.out
                  have hnc45 := NB487_498.out
                  have hcz46_0 : w41.cell? ⟨gb498, 0, none⟩ = some (.int .i64 t491) := (blk_cell BK498.out 0).trans rfl
                  have hcz46_1 : w41.cell? ⟨gb498, 1, none⟩ = some (.int .i64 t492) := (blk_cell BK498.out 1).trans rfl
                  have hcz46_2 : w41.cell? ⟨gb498, 2, none⟩ = some (.slice Ao21 t493.length co21) := (blk_cell BK498.out 2).trans rfl
                  have hcz46_3 : w41.cell? ⟨gb498, 3, none⟩ = some (.int .i64 t496) := (blk_cell BK498.out 3).trans rfl
                  have hfz46_0 := blk_frozen BK498.out 0
                  have hfz46_1 := blk_frozen BK498.out 1
                  have hfz46_2 := blk_frozen BK498.out 2
                  have hfz46_3 := blk_frozen BK498.out 3
                  have hcz47_0 : w41.cell? ⟨gb487, 0, none⟩ = some (.int .i64 t480) := (blk_cell BK487.out 0).trans rfl
                  have hcz47_1 : w41.cell? ⟨gb487, 1, none⟩ = some (.int .i64 t481) := (blk_cell BK487.out 1).trans rfl
                  have hcz47_2 : w41.cell? ⟨gb487, 2, none⟩ = some (.slice Ao14 t482.length co14) := (blk_cell BK487.out 2).trans rfl
                  have hcz47_3 : w41.cell? ⟨gb487, 3, none⟩ = some (.int .i64 t485) := (blk_cell BK487.out 3).trans rfl
                  have hfz47_0 := blk_frozen BK487.out 0
                  have hfz47_1 := blk_frozen BK487.out 1
                  have hfz47_2 := blk_frozen BK487.out 2
                  have hfz47_3 := blk_frozen BK487.out 3
                  go_wp2_with (first | (go_at_call 24; (with_reducible refine (laws_eqLayout.calls kj7 t491 t492 _ _ t493 t496 t480 t481 _ _ t482 t485 true _ ?side1 ?side2 ?side3 ?side4 A43.out).mono ?_); (case side1 => repeat (first | exact (Kd.R_reads' HO_499002.out).2.2 | (with_reducible refine Kd.C_alloc ?_ _) | (with_reducible refine Kd.C_drewN ?_ _) | (with_reducible refine Kd.C_drew ?_))); (case side2 => exact (Kd.R_reads' HO_499002.out).2.1); (case side3 => repeat (first | exact (Kd.R_reads' HO_488002.out).2.2 | (with_reducible refine Kd.C_alloc ?_ _) | (with_reducible refine Kd.C_drewN ?_ _) | (with_reducible refine Kd.C_drew ?_))); (case side4 => exact (Kd.R_reads' HO_488002.out).2.1); rintro e w48 ⟨rfl, hb⟩; have n0_ := Aside0.mk (Kd.R_below (by (with_reducible repeat (first | apply Kd.R_alloc | apply Kd.R_drewN | apply Kd.R_drew)); exact HO_6.out) hb); have n1_ := Aside0.mk (Kd.R_below (by (with_reducible repeat (first | apply Kd.R_alloc | apply Kd.R_drewN | apply Kd.R_drew)); exact HO_488002.out) hb); have n2_ := Aside0.mk (Kd.R_below (by (with_reducible repeat (first | apply Kd.R_alloc | apply Kd.R_drewN | apply Kd.R_drew)); exact HO_499002.out) hb); have n3_ := Aside0.mk (Kd.R_below (by (with_reducible repeat (first | apply Kd.R_alloc | apply Kd.R_drewN | apply Kd.R_drew)); exact HO502.out) hb); have n4_ := Aside0.mk (blk_below (g := gb487) (o := .cells #[.int .i64 t480, .int .i64 t481, .slice Ao14 t482.length co14, .int .i64 t485] 30 (0, 0)) (by (with_reducible repeat (first | refine blk_drewN ?_ _ | refine blk_drew ?_ | refine blk_alloc ?_ _)); exact BK487.out) hb); have n5_ := Aside0.mk (blk_below (g := gb498) (o := .cells #[.int .i64 t491, .int .i64 t492, .slice Ao21 t493.length co21, .int .i64 t496] 30 (0, 0)) (by (with_reducible repeat (first | refine blk_drewN ?_ _ | refine blk_drew ?_ | refine blk_alloc ?_ _)); exact BK498.out) hb); have n6_ := Aside0.mk (below_step (by repeat (first | (with_reducible first | exact HB.out | apply below_alloc | apply pw_below_drewN | apply below_drew1 | refine below_set ?_ GE487.out | refine below_set ?_ GE498.out) | exact HB.out)) hb); clear HO_6; clear HO_488002; clear HO_499002; clear HO502; clear BK487; clear BK498; clear HB; have HO_6 := n0_; have HO_488002 := n1_; have HO_499002 := n2_; have HO502 := n3_; have BK487 := n4_; have BK498 := n5_; have HB := n6_; clear n0_ n1_ n2_ n3_ n4_ n5_ n6_; (try clear hb); (try clear hb2); (try clear hk); (try clear hi)))
                  go_meet
                  case rel => exact ⟨_, ((t497 != t486)), (by first | rfl | (simp; done) | (simp [*]; done)), H', ⟨by have := HJ7.out; first | omega | exact Nat.le_refl _⟩, ⟨by (with_reducible repeat (first | apply Kd.R_alloc | apply Kd.R_drewN | apply Kd.R_drew)); exact HO_488002.out⟩, ⟨by (with_reducible repeat (first | apply Kd.R_alloc | apply Kd.R_drewN | apply Kd.R_drew)); exact HO_499002.out⟩, ⟨by (with_reducible repeat (first | refine blk_drewN ?_ _ | refine blk_drew ?_ | refine blk_alloc ?_ _)); exact BK487.out⟩, ⟨by (with_reducible repeat (first | refine blk_drewN ?_ _ | refine blk_drew ?_ | refine blk_alloc ?_ _)); exact BK498.out⟩, ⟨by repeat (first | (with_reducible first | exact HB.out | apply below_alloc | apply pw_below_drewN | apply below_drew1 | refine below_set ?_ GE487.out | refine below_set ?_ GE498.out) | exact HB.out)⟩⟩
                · replace c44 := Bool.eq_false_iff.mpr c44
                  subst c44
                  have H1 : (laws_FnExactLayoutOf.j1 kj7 l0 t486 true t480 t481 t482 t485 t491 t492 t493 t496) = some r := by rw [if_neg (show ¬ (false = true) by decide)] at H; exact H
                  clear H
                  have H := H1
                  clear H1
                  have H' := Aside0.mk H
                  clear H
                  have hnb49 := NB498_487.out
                  have hnc49 := NB487_498.out
                  have hcz50_0 : w41.cell? ⟨gb498, 0, none⟩ = some (.int .i64 t491) := (blk_cell BK498.out 0).trans rfl
                  have hcz50_1 : w41.cell? ⟨gb498, 1, none⟩ = some (.int .i64 t492) := (blk_cell BK498.out 1).trans rfl
                  have hcz50_2 : w41.cell? ⟨gb498, 2, none⟩ = some (.slice Ao21 t493.length co21) := (blk_cell BK498.out 2).trans rfl
                  have hcz50_3 : w41.cell? ⟨gb498, 3, none⟩ = some (.int .i64 t496) := (blk_cell BK498.out 3).trans rfl
                  have hfz50_0 := blk_frozen BK498.out 0
                  have hfz50_1 := blk_frozen BK498.out 1
                  have hfz50_2 := blk_frozen BK498.out 2
                  have hfz50_3 := blk_frozen BK498.out 3
                  have hcz51_0 : w41.cell? ⟨gb487, 0, none⟩ = some (.int .i64 t480) := (blk_cell BK487.out 0).trans rfl
                  have hcz51_1 : w41.cell? ⟨gb487, 1, none⟩ = some (.int .i64 t481) := (blk_cell BK487.out 1).trans rfl
                  have hcz51_2 : w41.cell? ⟨gb487, 2, none⟩ = some (.slice Ao14 t482.length co14) := (blk_cell BK487.out 2).trans rfl
                  have hcz51_3 : w41.cell? ⟨gb487, 3, none⟩ = some (.int .i64 t485) := (blk_cell BK487.out 3).trans rfl
                  have hfz51_0 := blk_frozen BK487.out 0
                  have hfz51_1 := blk_frozen BK487.out 1
                  have hfz51_2 := blk_frozen BK487.out 2
                  have hfz51_3 := blk_frozen BK487.out 3
                  go_wp2_with (first | (go_at_call 24; (with_reducible refine (laws_eqLayout.calls kj7 t491 t492 _ _ t493 t496 t480 t481 _ _ t482 t485 false _ ?side1 ?side2 ?side3 ?side4 A43.out).mono ?_); (case side1 => repeat (first | exact (Kd.R_reads' HO_499002.out).2.2 | (with_reducible refine Kd.C_alloc ?_ _) | (with_reducible refine Kd.C_drewN ?_ _) | (with_reducible refine Kd.C_drew ?_))); (case side2 => exact (Kd.R_reads' HO_499002.out).2.1); (case side3 => repeat (first | exact (Kd.R_reads' HO_488002.out).2.2 | (with_reducible refine Kd.C_alloc ?_ _) | (with_reducible refine Kd.C_drewN ?_ _) | (with_reducible refine Kd.C_drew ?_))); (case side4 => exact (Kd.R_reads' HO_488002.out).2.1); rintro e w52 ⟨rfl, hb⟩; have n0_ := Aside0.mk (Kd.R_below (by (with_reducible repeat (first | apply Kd.R_alloc | apply Kd.R_drewN | apply Kd.R_drew)); exact HO_6.out) hb); have n1_ := Aside0.mk (Kd.R_below (by (with_reducible repeat (first | apply Kd.R_alloc | apply Kd.R_drewN | apply Kd.R_drew)); exact HO_488002.out) hb); have n2_ := Aside0.mk (Kd.R_below (by (with_reducible repeat (first | apply Kd.R_alloc | apply Kd.R_drewN | apply Kd.R_drew)); exact HO_499002.out) hb); have n3_ := Aside0.mk (Kd.R_below (by (with_reducible repeat (first | apply Kd.R_alloc | apply Kd.R_drewN | apply Kd.R_drew)); exact HO502.out) hb); have n4_ := Aside0.mk (blk_below (g := gb487) (o := .cells #[.int .i64 t480, .int .i64 t481, .slice Ao14 t482.length co14, .int .i64 t485] 30 (0, 0)) (by (with_reducible repeat (first | refine blk_drewN ?_ _ | refine blk_drew ?_ | refine blk_alloc ?_ _)); exact BK487.out) hb); have n5_ := Aside0.mk (blk_below (g := gb498) (o := .cells #[.int .i64 t491, .int .i64 t492, .slice Ao21 t493.length co21, .int .i64 t496] 30 (0, 0)) (by (with_reducible repeat (first | refine blk_drewN ?_ _ | refine blk_drew ?_ | refine blk_alloc ?_ _)); exact BK498.out) hb); have n6_ := Aside0.mk (below_step (by repeat (first | (with_reducible first | exact HB.out | apply below_alloc | apply pw_below_drewN | apply below_drew1 | refine below_set ?_ GE487.out | refine below_set ?_ GE498.out) | exact HB.out)) hb); clear HO_6; clear HO_488002; clear HO_499002; clear HO502; clear BK487; clear BK498; clear HB; have HO_6 := n0_; have HO_488002 := n1_; have HO_499002 := n2_; have HO502 := n3_; have BK487 := n4_; have BK498 := n5_; have HB := n6_; clear n0_ n1_ n2_ n3_ n4_ n5_ n6_; (try clear hb); (try clear hb2); (try clear hk); (try clear hi)))
                  go_meet
                  case rel => exact ⟨_, (true), (by first | rfl | (simp; done) | (simp [*]; done)), H', ⟨by have := HJ7.out; first | omega | exact Nat.le_refl _⟩, ⟨by (with_reducible repeat (first | apply Kd.R_alloc | apply Kd.R_drewN | apply Kd.R_drew)); exact HO_488002.out⟩, ⟨by (with_reducible repeat (first | apply Kd.R_alloc | apply Kd.R_drewN | apply Kd.R_drew)); exact HO_499002.out⟩, ⟨by (with_reducible repeat (first | refine blk_drewN ?_ _ | refine blk_drew ?_ | refine blk_alloc ?_ _)); exact BK487.out⟩, ⟨by (with_reducible repeat (first | refine blk_drewN ?_ _ | refine blk_drew ?_ | refine blk_alloc ?_ _)); exact BK498.out⟩, ⟨by repeat (first | (with_reducible first | exact HB.out | apply below_alloc | apply pw_below_drewN | apply below_drew1 | refine below_set ?_ GE487.out | refine below_set ?_ GE498.out) | exact HB.out)⟩⟩
            case rest =>
              clear HC37
              try clear c1
              try clear c2
              try clear p2
              try clear c3
              try clear c3b0
              try clear c4
              try clear c10
              try clear c14
              try clear c15
              try clear c17
              try clear c19
              try clear c21
              try clear c23
              try clear c24
              try clear c25
              try clear c28
              try clear c32
              try clear c35
              try clear c42
              try clear c42b0
              try clear c44
              try clear c45
              try clear c49
              try clear hcz13_0
              try clear hcz13_1
              try clear hcz13_2
              try clear hcz13_3
              try clear hcz20_0
              try clear hcz20_1
              try clear hcz20_2
              try clear hcz20_3
              try clear hcz25_0
              try clear hcz25_1
              try clear hcz25_2
              try clear hcz25_3
              try clear hcz26_0
              try clear hcz26_1
              try clear hcz26_2
              try clear hcz26_3
              try clear hcz29_0
              try clear hcz29_1
              try clear hcz29_2
              try clear hcz29_3
              try clear hcz30_0
              try clear hcz30_1
              try clear hcz30_2
              try clear hcz30_3
              try clear hcz46_0
              try clear hcz46_1
              try clear hcz46_2
              try clear hcz46_3
              try clear hcz47_0
              try clear hcz47_1
              try clear hcz47_2
              try clear hcz47_3
              try clear hcz50_0
              try clear hcz50_1
              try clear hcz50_2
              try clear hcz50_3
              try clear hcz51_0
              try clear hcz51_1
              try clear hcz51_2
              try clear hcz51_3
              try clear hfz13_0
              try clear hfz13_1
              try clear hfz13_2
              try clear hfz13_3
              try clear hfz20_0
              try clear hfz20_1
              try clear hfz20_2
              try clear hfz20_3
              try clear hfz25_0
              try clear hfz25_1
              try clear hfz25_2
              try clear hfz25_3
              try clear hfz26_0
              try clear hfz26_1
              try clear hfz26_2
              try clear hfz26_3
              try clear hfz29_0
              try clear hfz29_1
              try clear hfz29_2
              try clear hfz29_3
              try clear hfz30_0
              try clear hfz30_1
              try clear hfz30_2
              try clear hfz30_3
              try clear hfz46_0
              try clear hfz46_1
              try clear hfz46_2
              try clear hfz46_3
              try clear hfz47_0
              try clear hfz47_1
              try clear hfz47_2
              try clear hfz47_3
              try clear hfz50_0
              try clear hfz50_1
              try clear hfz50_2
              try clear hfz50_3
              try clear hfz51_0
              try clear hfz51_1
              try clear hfz51_2
              try clear hfz51_3
              try clear p2
              obtain ⟨kq, x61_36, rfl, HA, HJ36, HO_488002, HO_499002, BK487, BK498, HB⟩ := hcut
              cases kq with
              | zero => exact absurd HA.out (by simp [laws_FnExactLayoutOf.j1])
              | succ kj36 =>
                have H := HA.out
                clear HA
                simp only [laws_FnExactLayoutOf.j1] at H
                by_cases c53 : x61_36 = true
                · subst c53
                  have H1 : (some false) = some r := by rw [if_pos rfl] at H; exact H
                  clear H
                  have H := H1
                  clear H1
                  obtain rfl := Option.some.inj H
                  go_wp2
                  go_ret
                  exact ⟨by first | rfl | (simp [errW_none, errW_some] <;> rfl) | (simp [*, errW_none, errW_some] <;> rfl) | (simp only [Bool.and_eq_true, beq_iff_eq, Bool.not_eq_true', Bool.not_eq_eq_eq_not, Bool.not_true, Bool.not_false] at *; simp [*]), by repeat (first | (with_reducible first | exact HB.out | apply below_alloc | apply pw_below_drewN | apply below_drew1 | refine below_set ?_ GE487.out | refine below_set ?_ GE498.out) | exact HB.out)⟩
                · replace c53 := Bool.eq_false_iff.mpr c53
                  subst c53
                  have H1 : ((laws_markLayout.f kj36 t491 t492 t493 t496 1).bind fun bt507 => ((laws_heldLayout.f kj36 t491 t492 bt507.2 t496 1).bind fun t509 => (if t509 < 0 then (some false) else (if t509 = bt507.1 then ((laws_toFieldS.f kj36 l0).bind fun t510 => ((impl_LayoutOf.f t510).bind fun bt513 => ((laws_eqLayout.f kj36 bt513.1 bt513.2.1 bt513.2.2.1 bt513.2.2.2.1 t480 t481 t482 t485).bind fun t521 => (if t521 = true then (laws_FnExactLayoutOf.j2 kj36 bt507.1 (bt513.2.2.2.2 != t486) t491 t492 bt507.2 t496) else (laws_FnExactLayoutOf.j2 kj36 bt507.1 true t491 t492 bt507.2 t496))))) else (some false))))) = some r := by rw [if_neg (show ¬ (false = true) by decide)] at H; exact H
                  clear H
                  have H := H1
                  clear H1
                  replace H := Option.bind_eq_some_iff.mp H
                  obtain ⟨⟨t507, t508⟩, A540, H⟩ := H
                  replace H : ((laws_heldLayout.f kj36 t491 t492 t508 t496 1).bind fun t509 => (if t509 < 0 then (some false) else (if t509 = t507 then ((laws_toFieldS.f kj36 l0).bind fun t510 => ((impl_LayoutOf.f t510).bind fun bt513 => ((laws_eqLayout.f kj36 bt513.1 bt513.2.1 bt513.2.2.1 bt513.2.2.2.1 t480 t481 t482 t485).bind fun t521 => (if t521 = true then (laws_FnExactLayoutOf.j2 kj36 t507 (bt513.2.2.2.2 != t486) t491 t492 t508 t496) else (laws_FnExactLayoutOf.j2 kj36 t507 true t491 t492 t508 t496))))) else (some false)))) = some r := H
                  have A54 := Aside0.mk A540
                  clear A540
                  replace H := Option.bind_eq_some_iff.mp H
                  obtain ⟨t509, A550, H⟩ := H
                  replace H : (if t509 < 0 then (some false) else (if t509 = t507 then ((laws_toFieldS.f kj36 l0).bind fun t510 => ((impl_LayoutOf.f t510).bind fun bt513 => ((laws_eqLayout.f kj36 bt513.1 bt513.2.1 bt513.2.2.1 bt513.2.2.2.1 t480 t481 t482 t485).bind fun t521 => (if t521 = true then (laws_FnExactLayoutOf.j2 kj36 t507 (bt513.2.2.2.2 != t486) t491 t492 t508 t496) else (laws_FnExactLayoutOf.j2 kj36 t507 true t491 t492 t508 t496))))) else (some false))) = some r := H
                  have A55 := Aside0.mk A550
                  clear A550
                  by_cases c56 : t509 < 0
                  · rw [if_pos c56] at H
                    have c56b0 : decide (t509 < 0) = true := decide_eq_true c56
                    clear c56
                    obtain rfl := Option.some.inj H
                    have hnb57 := NB498_487.out
                    have hnc57 := NB487_498.out
                    have hcz58_0 : wc.cell? ⟨gb498, 0, none⟩ = some (.int .i64 t491) := (blk_cell BK498.out 0).trans rfl
                    have hcz58_1 : wc.cell? ⟨gb498, 1, none⟩ = some (.int .i64 t492) := (blk_cell BK498.out 1).trans rfl
                    have hcz58_2 : wc.cell? ⟨gb498, 2, none⟩ = some (.slice Ao21 t493.length co21) := (blk_cell BK498.out 2).trans rfl
                    have hcz58_3 : wc.cell? ⟨gb498, 3, none⟩ = some (.int .i64 t496) := (blk_cell BK498.out 3).trans rfl
                    have hfz58_0 := blk_frozen BK498.out 0
                    have hfz58_1 := blk_frozen BK498.out 1
                    have hfz58_2 := blk_frozen BK498.out 2
                    have hfz58_3 := blk_frozen BK498.out 3
                    go_wp2_with (first | ((with_reducible refine gate_callee (f := 26) rfl ?_); refine goesL_ (some 64) rfl rfl Tryd.func26 (by kernel_rfl) rfl #[.agg #[.int .i64 t491, .int .i64 t492, .slice Ao21 t493.length co21, .int .i64 t496], .int .i64 1] rfl (by (try simp only [List.map_toArray, List.map_cons, List.map_nil]); first | done | rfl | (simp only [List.length_drop, List.length_take]; rfl)) ?_; (with_reducible refine (laws_markLayout.calls kj36 t491 t492 (fun k_ => some k_ = (.slice Ao21 t493.length co21 : Value).ownBlock) (.slice Ao21 t493.length co21) t493 t496 1 t507 t508 w _ ?side1 ?side2 A54.out).mono ?_); (case side1 => repeat (first | (with_reducible first | exact HB.out | apply below_alloc | apply pw_below_drewN | apply below_drew1 | refine below_set ?_ GE487.out | refine below_set ?_ GE498.out) | exact HB.out)); (case side2 => exact Kd.R_tight rfl HO_499002.out); rintro e w59 ⟨rfl, hy0, hb, hkp⟩; refine ⟨_, rfl, ?_⟩; have n0_ := Aside0.mk (Kd.R_mono (ok' := fun k_ => some k_ ≠ (.slice Ao21 t493.length co21 : Value).ownBlock) (Kd.R_keptB (HO_488002.out) hkp (fun k_ hk_ hs_ => (hk_) hs_)) (fun k_ hk_ => hk_.1)); have n1_ := Aside0.mk (Kd.R_reok rfl hy0 (fun k_ e_ => HO_499002.out.1 k_ e_)); have n2_ := Aside0.mk (blk_kept (by (with_reducible repeat (first | refine blk_drewN ?_ _ | refine blk_drew ?_ | refine blk_alloc ?_ _)); exact BK487.out) hkp (fun hs_ => (fun e_ => (Kd.R_ne HO_499002.out BK487.out (by decide)) e_) hs_)); have n3_ := Aside0.mk (blk_kept (by (with_reducible repeat (first | refine blk_drewN ?_ _ | refine blk_drew ?_ | refine blk_alloc ?_ _)); exact BK498.out) hkp (fun hs_ => (fun e_ => (Kd.R_ne HO_499002.out BK498.out (by decide)) e_) hs_)); have n4_ := Aside0.mk (hb); clear HO_488002; clear HO_499002; clear BK487; clear BK498; clear HB; have HO_488002 := n0_; have HO_499002 := n1_; have BK487 := n2_; have BK498 := n3_; have HB := n4_; clear n0_ n1_ n2_ n3_ n4_; (try clear hb); (try clear hkp); (try clear hy0); have hcz60_0 : w59.cell? ⟨gb498, 0, none⟩ = some (.int .i64 t491) := (blk_cell BK498.out 0).trans rfl; have hcz60_1 : w59.cell? ⟨gb498, 1, none⟩ = some (.int .i64 t492) := (blk_cell BK498.out 1).trans rfl; have hcz60_2 : w59.cell? ⟨gb498, 2, none⟩ = some (.slice Ao21 t493.length co21) := (blk_cell BK498.out 2).trans rfl; have hcz60_3 : w59.cell? ⟨gb498, 3, none⟩ = some (.int .i64 t496) := (blk_cell BK498.out 3).trans rfl; have hfz60_0 := blk_frozen BK498.out 0; have hfz60_1 := blk_frozen BK498.out 1; have hfz60_2 := blk_frozen BK498.out 2; have hfz60_3 := blk_frozen BK498.out 3) | ((with_reducible refine gate_callee (f := 27) rfl ?_); refine goesL_ (some 67) rfl rfl Tryd.func27 (by kernel_rfl) rfl #[.agg #[.int .i64 t491, .int .i64 t492, .slice Ao21 t508.length co21, .int .i64 t496], .int .i64 1] rfl (by (try simp only [List.map_toArray, List.map_cons, List.map_nil]); first | done | (rw [show t508.length = t493.length from (Kd.R_reads' HO_499002.out).1.symm] <;> rfl) | rfl | (simp only [List.length_drop, List.length_take]; rfl)) ?_; (with_reducible refine (laws_heldLayout.calls kj36 t491 t492 _ _ t508 t496 1 t509 _ ?side1 ?side2 A55.out).mono ?_); (case side1 => repeat (first | exact (Kd.R_reads' HO_499002.out).2.2 | (with_reducible refine Kd.C_alloc ?_ _) | (with_reducible refine Kd.C_drewN ?_ _) | (with_reducible refine Kd.C_drew ?_))); (case side2 => rw [show t508.length = t493.length from (Kd.R_reads' HO_499002.out).1.symm]; exact (Kd.R_reads' HO_499002.out).2.1); rintro e w61 ⟨rfl, hb⟩; refine ⟨_, rfl, ?_⟩; have n0_ := Aside0.mk (Kd.R_below (by (with_reducible repeat (first | apply Kd.R_alloc | apply Kd.R_drewN | apply Kd.R_drew)); exact HO_488002.out) hb); have n1_ := Aside0.mk (Kd.R_below (by (with_reducible repeat (first | apply Kd.R_alloc | apply Kd.R_drewN | apply Kd.R_drew)); exact HO_499002.out) hb); have n2_ := Aside0.mk (blk_below (g := gb487) (o := .cells #[.int .i64 t480, .int .i64 t481, .slice Ao14 t482.length co14, .int .i64 t485] 30 (0, 0)) (by (with_reducible repeat (first | refine blk_drewN ?_ _ | refine blk_drew ?_ | refine blk_alloc ?_ _)); exact BK487.out) hb); have n3_ := Aside0.mk (blk_below (g := gb498) (o := .cells #[.int .i64 t491, .int .i64 t492, .slice Ao21 t493.length co21, .int .i64 t496] 30 (0, 0)) (by (with_reducible repeat (first | refine blk_drewN ?_ _ | refine blk_drew ?_ | refine blk_alloc ?_ _)); exact BK498.out) hb); have n4_ := Aside0.mk (below_step (by repeat (first | (with_reducible first | exact HB.out | apply below_alloc | apply pw_below_drewN | apply below_drew1 | refine below_set ?_ GE487.out | refine below_set ?_ GE498.out) | exact HB.out)) hb); clear HO_488002; clear HO_499002; clear BK487; clear BK498; clear HB; have HO_488002 := n0_; have HO_499002 := n1_; have BK487 := n2_; have BK498 := n3_; have HB := n4_; clear n0_ n1_ n2_ n3_ n4_; (try clear hb); (try clear hb2); (try clear hk); (try clear hi)))
                    go_ret
                    exact ⟨by first | rfl | (simp [errW_none, errW_some] <;> rfl) | (simp [*, errW_none, errW_some] <;> rfl) | (simp only [Bool.and_eq_true, beq_iff_eq, Bool.not_eq_true', Bool.not_eq_eq_eq_not, Bool.not_true, Bool.not_false] at *; simp [*]), by repeat (first | (with_reducible first | exact HB.out | apply below_alloc | apply pw_below_drewN | apply below_drew1 | refine below_set ?_ GE487.out | refine below_set ?_ GE498.out) | exact HB.out)⟩
                  · rw [if_neg c56] at H
                    have c56b0 : decide (t509 < 0) = false := decide_eq_false c56
                    clear c56
                    by_cases c62 : t509 = t507
                    · rw [if_pos c62] at H
                      have c62b0 : (t509 == t507) = true := beq_iff_eq.mpr c62
                      have c62b1 : (t509 != t507) = false := bne_eq_false_iff_eq.mpr c62
                      clear c62
                      replace H := Option.bind_eq_some_iff.mp H
                      obtain ⟨t510, A630, H⟩ := H
                      replace H : ((impl_LayoutOf.f t510).bind fun bt513 => ((laws_eqLayout.f kj36 bt513.1 bt513.2.1 bt513.2.2.1 bt513.2.2.2.1 t480 t481 t482 t485).bind fun t521 => (if t521 = true then (laws_FnExactLayoutOf.j2 kj36 t507 (bt513.2.2.2.2 != t486) t491 t492 t508 t496) else (laws_FnExactLayoutOf.j2 kj36 t507 true t491 t492 t508 t496)))) = some r := H
                      have A63 := Aside0.mk A630
                      clear A630
                      replace H := Option.bind_eq_some_iff.mp H
                      obtain ⟨⟨t513, t514, t515, t518, t519⟩, A640, H⟩ := H
                      replace H : ((laws_eqLayout.f kj36 t513 t514 t515 t518 t480 t481 t482 t485).bind fun t521 => (if t521 = true then (laws_FnExactLayoutOf.j2 kj36 t507 (t519 != t486) t491 t492 t508 t496) else (laws_FnExactLayoutOf.j2 kj36 t507 true t491 t492 t508 t496))) = some r := H
                      have A64 := Aside0.mk A640
                      clear A640
                      have HC65 := Aside0.mk H
                      clear H
                      have hnb66 := NB498_487.out
                      have hnc66 := NB487_498.out
                      have hcz67_0 : wc.cell? ⟨gb498, 0, none⟩ = some (.int .i64 t491) := (blk_cell BK498.out 0).trans rfl
                      have hcz67_1 : wc.cell? ⟨gb498, 1, none⟩ = some (.int .i64 t492) := (blk_cell BK498.out 1).trans rfl
                      have hcz67_2 : wc.cell? ⟨gb498, 2, none⟩ = some (.slice Ao21 t493.length co21) := (blk_cell BK498.out 2).trans rfl
                      have hcz67_3 : wc.cell? ⟨gb498, 3, none⟩ = some (.int .i64 t496) := (blk_cell BK498.out 3).trans rfl
                      have hfz67_0 := blk_frozen BK498.out 0
                      have hfz67_1 := blk_frozen BK498.out 1
                      have hfz67_2 := blk_frozen BK498.out 2
                      have hfz67_3 := blk_frozen BK498.out 3
                      go_upto_region 25 with (first | ((with_reducible refine gate_callee (f := 26) rfl ?_); refine goesL_ (some 64) rfl rfl Tryd.func26 (by kernel_rfl) rfl #[.agg #[.int .i64 t491, .int .i64 t492, .slice Ao21 t493.length co21, .int .i64 t496], .int .i64 1] rfl (by (try simp only [List.map_toArray, List.map_cons, List.map_nil]); first | done | rfl | (simp only [List.length_drop, List.length_take]; rfl)) ?_; (with_reducible refine (laws_markLayout.calls kj36 t491 t492 (fun k_ => some k_ = (.slice Ao21 t493.length co21 : Value).ownBlock) (.slice Ao21 t493.length co21) t493 t496 1 t507 t508 w _ ?side1 ?side2 A54.out).mono ?_); (case side1 => repeat (first | (with_reducible first | exact HB.out | apply below_alloc | apply pw_below_drewN | apply below_drew1 | refine below_set ?_ GE487.out | refine below_set ?_ GE498.out) | exact HB.out)); (case side2 => exact Kd.R_tight rfl HO_499002.out); rintro e w68 ⟨rfl, hy0, hb, hkp⟩; refine ⟨_, rfl, ?_⟩; have n0_ := Aside0.mk (Kd.R_mono (ok' := fun k_ => some k_ ≠ (.slice Ao21 t493.length co21 : Value).ownBlock) (Kd.R_keptB (HO_488002.out) hkp (fun k_ hk_ hs_ => (hk_) hs_)) (fun k_ hk_ => hk_.1)); have n1_ := Aside0.mk (Kd.R_reok rfl hy0 (fun k_ e_ => HO_499002.out.1 k_ e_)); have n2_ := Aside0.mk (blk_kept (by (with_reducible repeat (first | refine blk_drewN ?_ _ | refine blk_drew ?_ | refine blk_alloc ?_ _)); exact BK487.out) hkp (fun hs_ => (fun e_ => (Kd.R_ne HO_499002.out BK487.out (by decide)) e_) hs_)); have n3_ := Aside0.mk (blk_kept (by (with_reducible repeat (first | refine blk_drewN ?_ _ | refine blk_drew ?_ | refine blk_alloc ?_ _)); exact BK498.out) hkp (fun hs_ => (fun e_ => (Kd.R_ne HO_499002.out BK498.out (by decide)) e_) hs_)); have n4_ := Aside0.mk (hb); clear HO_488002; clear HO_499002; clear BK487; clear BK498; clear HB; have HO_488002 := n0_; have HO_499002 := n1_; have BK487 := n2_; have BK498 := n3_; have HB := n4_; clear n0_ n1_ n2_ n3_ n4_; (try clear hb); (try clear hkp); (try clear hy0); have hcz69_0 : w68.cell? ⟨gb498, 0, none⟩ = some (.int .i64 t491) := (blk_cell BK498.out 0).trans rfl; have hcz69_1 : w68.cell? ⟨gb498, 1, none⟩ = some (.int .i64 t492) := (blk_cell BK498.out 1).trans rfl; have hcz69_2 : w68.cell? ⟨gb498, 2, none⟩ = some (.slice Ao21 t493.length co21) := (blk_cell BK498.out 2).trans rfl; have hcz69_3 : w68.cell? ⟨gb498, 3, none⟩ = some (.int .i64 t496) := (blk_cell BK498.out 3).trans rfl; have hfz69_0 := blk_frozen BK498.out 0; have hfz69_1 := blk_frozen BK498.out 1; have hfz69_2 := blk_frozen BK498.out 2; have hfz69_3 := blk_frozen BK498.out 3) | ((with_reducible refine gate_callee (f := 27) rfl ?_); refine goesL_ (some 67) rfl rfl Tryd.func27 (by kernel_rfl) rfl #[.agg #[.int .i64 t491, .int .i64 t492, .slice Ao21 t508.length co21, .int .i64 t496], .int .i64 1] rfl (by (try simp only [List.map_toArray, List.map_cons, List.map_nil]); first | done | (rw [show t508.length = t493.length from (Kd.R_reads' HO_499002.out).1.symm] <;> rfl) | rfl | (simp only [List.length_drop, List.length_take]; rfl)) ?_; (with_reducible refine (laws_heldLayout.calls kj36 t491 t492 _ _ t508 t496 1 t509 _ ?side1 ?side2 A55.out).mono ?_); (case side1 => repeat (first | exact (Kd.R_reads' HO_499002.out).2.2 | (with_reducible refine Kd.C_alloc ?_ _) | (with_reducible refine Kd.C_drewN ?_ _) | (with_reducible refine Kd.C_drew ?_))); (case side2 => rw [show t508.length = t493.length from (Kd.R_reads' HO_499002.out).1.symm]; exact (Kd.R_reads' HO_499002.out).2.1); rintro e w70 ⟨rfl, hb⟩; refine ⟨_, rfl, ?_⟩; have n0_ := Aside0.mk (Kd.R_below (by (with_reducible repeat (first | apply Kd.R_alloc | apply Kd.R_drewN | apply Kd.R_drew)); exact HO_488002.out) hb); have n1_ := Aside0.mk (Kd.R_below (by (with_reducible repeat (first | apply Kd.R_alloc | apply Kd.R_drewN | apply Kd.R_drew)); exact HO_499002.out) hb); have n2_ := Aside0.mk (blk_below (g := gb487) (o := .cells #[.int .i64 t480, .int .i64 t481, .slice Ao14 t482.length co14, .int .i64 t485] 30 (0, 0)) (by (with_reducible repeat (first | refine blk_drewN ?_ _ | refine blk_drew ?_ | refine blk_alloc ?_ _)); exact BK487.out) hb); have n3_ := Aside0.mk (blk_below (g := gb498) (o := .cells #[.int .i64 t491, .int .i64 t492, .slice Ao21 t493.length co21, .int .i64 t496] 30 (0, 0)) (by (with_reducible repeat (first | refine blk_drewN ?_ _ | refine blk_drew ?_ | refine blk_alloc ?_ _)); exact BK498.out) hb); have n4_ := Aside0.mk (below_step (by repeat (first | (with_reducible first | exact HB.out | apply below_alloc | apply pw_below_drewN | apply below_drew1 | refine below_set ?_ GE487.out | refine below_set ?_ GE498.out) | exact HB.out)) hb); clear HO_488002; clear HO_499002; clear BK487; clear BK498; clear HB; have HO_488002 := n0_; have HO_499002 := n1_; have BK487 := n2_; have BK498 := n3_; have HB := n4_; clear n0_ n1_ n2_ n3_ n4_; (try clear hb); (try clear hb2); (try clear hk); (try clear hi)) | ((with_reducible refine gate_callee (f := 17) rfl ?_); refine goesL_ (some 75) rfl rfl Tryd.func17 (by kernel_rfl) rfl #[.slice A0 l0.length c0] rfl (by (try simp only [List.map_toArray, List.map_cons, List.map_nil]); first | done | rfl | (simp only [List.length_drop, List.length_take]; rfl)) ?_; (with_reducible refine (laws_toFieldS.calls kj36 _ _ l0 t510 _ ?side1 ?side2 A63.out).mono ?_); (case side1 => repeat (first | exact (Kd.C_below HR0.out HB.out) | (with_reducible refine Kd.C_alloc ?_ _) | (with_reducible refine Kd.C_drewN ?_ _) | (with_reducible refine Kd.C_drew ?_))); (case side2 => exact HC0.out); rintro e w71 ⟨v511, rfl, ho0, hb⟩; refine ⟨_, rfl, ?_⟩; have n0_ := Aside0.mk (Kd.R_below (by (with_reducible repeat (first | apply Kd.R_alloc | apply Kd.R_drewN | apply Kd.R_drew)); exact HO_488002.out) hb); have n1_ := Aside0.mk (Kd.R_below (by (with_reducible repeat (first | apply Kd.R_alloc | apply Kd.R_drewN | apply Kd.R_drew)); exact HO_499002.out) hb); have n2_ := Aside0.mk (Kd.R_lower ho0 (below_size (by repeat (first | (with_reducible first | exact HB.out | apply below_alloc | apply pw_below_drewN | apply below_drew1 | refine below_set ?_ GE487.out | refine below_set ?_ GE498.out) | exact HB.out)))); have n3_ := Aside0.mk (blk_below (g := gb487) (o := .cells #[.int .i64 t480, .int .i64 t481, .slice Ao14 t482.length co14, .int .i64 t485] 30 (0, 0)) (by (with_reducible repeat (first | refine blk_drewN ?_ _ | refine blk_drew ?_ | refine blk_alloc ?_ _)); exact BK487.out) hb); have n4_ := Aside0.mk (blk_below (g := gb498) (o := .cells #[.int .i64 t491, .int .i64 t492, .slice Ao21 t493.length co21, .int .i64 t496] 30 (0, 0)) (by (with_reducible repeat (first | refine blk_drewN ?_ _ | refine blk_drew ?_ | refine blk_alloc ?_ _)); exact BK498.out) hb); have n5_ := Aside0.mk (below_step (by repeat (first | (with_reducible first | exact HB.out | apply below_alloc | apply pw_below_drewN | apply below_drew1 | refine below_set ?_ GE487.out | refine below_set ?_ GE498.out) | exact HB.out)) hb); clear HO_488002; clear HO_499002; clear BK487; clear BK498; clear HB; have HO_488002 := n0_; have HO_499002 := n1_; have HO512 := n2_; have BK487 := n3_; have BK498 := n4_; have HB := n5_; clear n0_ n1_ n2_ n3_ n4_ n5_; (try clear hb); (try clear hb2); (try clear hk); (try clear hi); (try clear ho0); obtain ⟨Ao72, co72, eo72⟩ := Kd.R_slice HO512.out; subst eo72) | ((with_reducible refine gate_callee (f := 14) rfl ?_); refine goesL_ (some 76) rfl rfl Tryd.func14 (by kernel_rfl) rfl #[.slice Ao72 t510.length co72] rfl (by (try simp only [List.map_toArray, List.map_cons, List.map_nil]); first | done | rfl | (simp only [List.length_drop, List.length_take]; rfl)) ?_; (with_reducible refine (impl_LayoutOf.calls _ _ t510 t513 t514 t515 t518 t519 _ (hSB.mv (by repeat (first | (with_reducible first | exact HB.out | exact Below.refl _ _ | apply below_alloc | apply pw_below_drewN | apply below_drew1) | exact HB.out | exact Below.refl _ _))) ?side1 ?side2 A64.out).mono ?_); (case side1 => repeat (first | exact (Kd.R_reads' HO512.out).2.2 | (with_reducible refine Kd.C_alloc ?_ _) | (with_reducible refine Kd.C_drewN ?_ _) | (with_reducible refine Kd.C_drew ?_))); (case side2 => exact (Kd.R_reads' HO512.out).2.1); rintro e w73 ⟨v516, rfl, ho0, hb⟩; refine ⟨_, rfl, ?_⟩; have n0_ := Aside0.mk (Kd.R_elder' (by (with_reducible repeat (first | apply Kd.R_alloc | apply Kd.R_drewN | apply Kd.R_drew)); exact HO_488002.out) (Kd.R_base ho0) hb); have n1_ := Aside0.mk (Kd.R_elder' (by (with_reducible repeat (first | apply Kd.R_alloc | apply Kd.R_drewN | apply Kd.R_drew)); exact HO_499002.out) (Kd.R_base ho0) hb); have n2_ := Aside0.mk (Kd.R_below (by (with_reducible repeat (first | apply Kd.R_alloc | apply Kd.R_drewN | apply Kd.R_drew)); exact HO512.out) hb); have n3_ := Aside0.mk (Kd.R_lower (Kd.R_new' (Kd.R_new' ho0 (Kd.R_lt (by (with_reducible repeat (first | apply Kd.R_alloc | apply Kd.R_drewN | apply Kd.R_drew)); exact HO_488002.out))) (Kd.R_lt (by (with_reducible repeat (first | apply Kd.R_alloc | apply Kd.R_drewN | apply Kd.R_drew)); exact HO_499002.out))) (below_size (by repeat (first | (with_reducible first | exact HB.out | apply below_alloc | apply pw_below_drewN | apply below_drew1 | refine below_set ?_ GE487.out | refine below_set ?_ GE498.out) | exact HB.out)))); have n4_ := Aside0.mk (blk_below (g := gb487) (o := .cells #[.int .i64 t480, .int .i64 t481, .slice Ao14 t482.length co14, .int .i64 t485] 30 (0, 0)) (by (with_reducible repeat (first | refine blk_drewN ?_ _ | refine blk_drew ?_ | refine blk_alloc ?_ _)); exact BK487.out) hb); have n5_ := Aside0.mk (blk_below (g := gb498) (o := .cells #[.int .i64 t491, .int .i64 t492, .slice Ao21 t493.length co21, .int .i64 t496] 30 (0, 0)) (by (with_reducible repeat (first | refine blk_drewN ?_ _ | refine blk_drew ?_ | refine blk_alloc ?_ _)); exact BK498.out) hb); have n6_ := Aside0.mk (below_step (by repeat (first | (with_reducible first | exact HB.out | apply below_alloc | apply pw_below_drewN | apply below_drew1 | refine below_set ?_ GE487.out | refine below_set ?_ GE498.out) | exact HB.out)) hb); clear HO_488002; clear HO_499002; clear HO512; clear BK487; clear BK498; clear HB; have HO_488002 := n0_; have HO_499002 := n1_; have HO512 := n2_; have HO517 := n3_; have BK487 := n4_; have BK498 := n5_; have HB := n6_; clear n0_ n1_ n2_ n3_ n4_ n5_ n6_; (try clear hb); (try clear hb2); (try clear hk); (try clear hi); (try clear ho0)) | ((with_reducible refine gate_dst (N := 12) rfl ?_); refine box_event ?hg (N := 12) ?hd (cs := #[.int .i64 0, .int .i64 0, .slice none 0 0, .int .i64 0]) (t := 30) ?hr ?_; (case hd => rfl); (case hg => rfl); (case hr => first | (go_simp; done) | (go_simp; rfl)); intro gb520 hg w74 hbox hb; have n0_ := Aside0.mk (Kd.R_below (by (with_reducible repeat (first | apply Kd.R_alloc | apply Kd.R_drewN | apply Kd.R_drew)); exact HO_488002.out) hb); have n1_ := Aside0.mk (Kd.R_below (by (with_reducible repeat (first | apply Kd.R_alloc | apply Kd.R_drewN | apply Kd.R_drew)); exact HO_499002.out) hb); have n2_ := Aside0.mk (Kd.R_below (by (with_reducible repeat (first | apply Kd.R_alloc | apply Kd.R_drewN | apply Kd.R_drew)); exact HO512.out) hb); have n3_ := Aside0.mk (Kd.R_below (by (with_reducible repeat (first | apply Kd.R_alloc | apply Kd.R_drewN | apply Kd.R_drew)); exact HO517.out) hb); have n4_ := Aside0.mk (blk_below (g := gb487) (o := .cells #[.int .i64 t480, .int .i64 t481, .slice Ao14 t482.length co14, .int .i64 t485] 30 (0, 0)) (by (with_reducible repeat (first | refine blk_drewN ?_ _ | refine blk_drew ?_ | refine blk_alloc ?_ _)); exact BK487.out) hb); have n5_ := Aside0.mk (blk_below (g := gb498) (o := .cells #[.int .i64 t491, .int .i64 t492, .slice Ao21 t493.length co21, .int .i64 t496] 30 (0, 0)) (by (with_reducible repeat (first | refine blk_drewN ?_ _ | refine blk_drew ?_ | refine blk_alloc ?_ _)); exact BK498.out) hb); have n6_ := Aside0.mk (below_step (by repeat (first | (with_reducible first | exact HB.out | apply below_alloc | apply pw_below_drewN | apply below_drew1 | refine below_set ?_ GE487.out | refine below_set ?_ GE498.out) | exact HB.out)) hb); have n7_ := Aside0.mk (hbox); have n8_ := Aside0.mk ((by rw [hg]; exact (below_size (by repeat (first | (with_reducible first | exact HB.out | apply below_alloc | apply pw_below_drewN | apply below_drew1 | refine below_set ?_ GE487.out | refine below_set ?_ GE498.out) | exact HB.out))) : w.heap.size ≤ gb520)); have n9_ := Aside0.mk ((by rw [hg]; exact (below_size (by repeat (first | (with_reducible first | exact HB.out | apply below_alloc | apply pw_below_drewN | apply below_drew1 | refine below_set ?_ GE487.out | refine below_set ?_ GE498.out) | exact HB.out))) : w.heap.size ≤ gb520)); have n10_ := Aside0.mk ((by rw [hg]; exact Nat.ne_of_lt (blk_lt (g := gb487) (o := .cells #[.int .i64 t480, .int .i64 t481, .slice Ao14 t482.length co14, .int .i64 t485] 30 (0, 0)) (by (with_reducible repeat (first | refine blk_drewN ?_ _ | refine blk_drew ?_ | refine blk_alloc ?_ _)); exact BK487.out)) : gb487 ≠ gb520)); have n11_ := Aside0.mk ((by rw [hg]; exact Nat.ne_of_gt (blk_lt (g := gb487) (o := .cells #[.int .i64 t480, .int .i64 t481, .slice Ao14 t482.length co14, .int .i64 t485] 30 (0, 0)) (by (with_reducible repeat (first | refine blk_drewN ?_ _ | refine blk_drew ?_ | refine blk_alloc ?_ _)); exact BK487.out)) : gb520 ≠ gb487)); have n12_ := Aside0.mk ((by rw [hg]; exact Nat.ne_of_lt (blk_lt (g := gb498) (o := .cells #[.int .i64 t491, .int .i64 t492, .slice Ao21 t493.length co21, .int .i64 t496] 30 (0, 0)) (by (with_reducible repeat (first | refine blk_drewN ?_ _ | refine blk_drew ?_ | refine blk_alloc ?_ _)); exact BK498.out)) : gb498 ≠ gb520)); have n13_ := Aside0.mk ((by rw [hg]; exact Nat.ne_of_gt (blk_lt (g := gb498) (o := .cells #[.int .i64 t491, .int .i64 t492, .slice Ao21 t493.length co21, .int .i64 t496] 30 (0, 0)) (by (with_reducible repeat (first | refine blk_drewN ?_ _ | refine blk_drew ?_ | refine blk_alloc ?_ _)); exact BK498.out)) : gb520 ≠ gb498)); clear HO_488002; clear HO_499002; clear HO512; clear HO517; clear BK487; clear BK498; clear HB; have HO_488002 := n0_; have HO_499002 := n1_; have HO512 := n2_; have HO517 := n3_; have BK487 := n4_; have BK498 := n5_; have HB := n6_; have BK520 := n7_; have GW520 := n8_; have GE520 := n9_; have NB487_520 := n10_; have NB520_487 := n11_; have NB498_520 := n12_; have NB520_498 := n13_; clear n0_ n1_ n2_ n3_ n4_ n5_ n6_ n7_ n8_ n9_ n10_ n11_ n12_ n13_; clear hb hbox hg; have hnb75 := NB520_487.out; have hnc75 := NB487_520.out; have hnb76 := NB520_498.out; have hnc76 := NB498_520.out; have hcz77_0 : w74.cell? ⟨gb520, 0, none⟩ = some (.int .i64 0) := (blk_cell BK520.out 0).trans rfl; have hcz77_1 : w74.cell? ⟨gb520, 1, none⟩ = some (.int .i64 0) := (blk_cell BK520.out 1).trans rfl; have hcz77_2 : w74.cell? ⟨gb520, 2, none⟩ = some (.slice none 0 0) := (blk_cell BK520.out 2).trans rfl; have hcz77_3 : w74.cell? ⟨gb520, 3, none⟩ = some (.int .i64 0) := (blk_cell BK520.out 3).trans rfl; have hfz77_0 := blk_frozen BK520.out 0; have hfz77_1 := blk_frozen BK520.out 1; have hfz77_2 := blk_frozen BK520.out 2; have hfz77_3 := blk_frozen BK520.out 3; obtain ⟨Ao78, co78, eo78⟩ := Kd.R_slice HO517.out; subst eo78))
                      (try simp only [Act.put, List.setIfInBounds_toArray, List.set_cons_zero, List.set_cons_succ])
                      go_cut [87] (fun v87 wc => ∃ (kq : Nat) (x87_64 : Bool), v87 = .bool x87_64 ∧ Aside0 (laws_FnExactLayoutOf.j2 kq t507 x87_64 t491 t492 t508 t496 = some r) ∧ Aside0 (kq ≤ kj36) ∧ Aside0 (Kd.R k34 34 wc w.heap.size (fun k_ => some k_ ≠ ((.slice Ao21 t493.length co21) : Value).ownBlock ∧ some k_ ≠ ((.slice Ao78 t515.length co78) : Value).ownBlock) (.slice Ao14 t482.length co14) t482) ∧ Aside0 (Kd.R k34 34 wc w.heap.size (fun k_ => some k_ ≠ ((.slice Ao14 t482.length co14) : Value).ownBlock ∧ some k_ ≠ ((.slice Ao78 t515.length co78) : Value).ownBlock) (.slice Ao21 t493.length co21) t508) ∧ Aside0 (Kd.R k34 34 wc w.heap.size (fun k_ => some k_ ≠ ((.slice Ao14 t482.length co14) : Value).ownBlock ∧ some k_ ≠ ((.slice Ao21 t493.length co21) : Value).ownBlock) (.slice Ao78 t515.length co78) t515) ∧ Aside0 (wc.heap[gb487]? = some (.cells #[.int .i64 t480, .int .i64 t481, (.slice Ao14 t482.length co14), .int .i64 t485] 30 (0, 0))) ∧ Aside0 (wc.heap[gb498]? = some (.cells #[.int .i64 t491, .int .i64 t492, (.slice Ao21 t493.length co21), .int .i64 t496] 30 (0, 0))) ∧ Aside0 (wc.heap[gb520]? = some (.cells #[.int .i64 t513, .int .i64 t514, (.slice Ao78 t515.length co78), .int .i64 t518] 30 (0, 0))) ∧ Aside0 (Below w.heap.size w wc))
                      case first =>
                        have H := HC65.out
                        clear HC65
                        replace H := Option.bind_eq_some_iff.mp H
                        obtain ⟨t521, A790, H⟩ := H
                        replace H : (if t521 = true then (laws_FnExactLayoutOf.j2 kj36 t507 (t519 != t486) t491 t492 t508 t496) else (laws_FnExactLayoutOf.j2 kj36 t507 true t491 t492 t508 t496)) = some r := H
                        have A79 := Aside0.mk A790
                        clear A790
                        by_cases c80 : t521 = true
                        · subst c80
                          have H1 : (laws_FnExactLayoutOf.j2 kj36 t507 (t519 != t486) t491 t492 t508 t496) = some r := by rw [if_pos rfl] at H; exact H
                          clear H
                          have H := H1
                          clear H1
                          have H' := Aside0.mk H
                          clear H
                          have hnb81 := NB520_487.out
                          have hnc81 := NB487_520.out
                          have hnb82 := NB520_498.out
                          have hnc82 := NB498_520.out
                          have hcz83_0 : w74.cell? ⟨gb520, 0, none⟩ = some (.int .i64 0) := (blk_cell BK520.out 0).trans rfl
                          have hcz83_1 : w74.cell? ⟨gb520, 1, none⟩ = some (.int .i64 0) := (blk_cell BK520.out 1).trans rfl
                          have hcz83_2 : w74.cell? ⟨gb520, 2, none⟩ = some (.slice none 0 0) := (blk_cell BK520.out 2).trans rfl
                          have hcz83_3 : w74.cell? ⟨gb520, 3, none⟩ = some (.int .i64 0) := (blk_cell BK520.out 3).trans rfl
                          have hfz83_0 := blk_frozen BK520.out 0
                          have hfz83_1 := blk_frozen BK520.out 1
                          have hfz83_2 := blk_frozen BK520.out 2
                          have hfz83_3 := blk_frozen BK520.out 3
                          have hnb84 := NB487_498.out
                          have hnc84 := NB498_487.out
                          have hcz85_0 : w74.cell? ⟨gb487, 0, none⟩ = some (.int .i64 t480) := (blk_cell BK487.out 0).trans rfl
                          have hcz85_1 : w74.cell? ⟨gb487, 1, none⟩ = some (.int .i64 t481) := (blk_cell BK487.out 1).trans rfl
                          have hcz85_2 : w74.cell? ⟨gb487, 2, none⟩ = some (.slice Ao14 t482.length co14) := (blk_cell BK487.out 2).trans rfl
                          have hcz85_3 : w74.cell? ⟨gb487, 3, none⟩ = some (.int .i64 t485) := (blk_cell BK487.out 3).trans rfl
                          have hfz85_0 := blk_frozen BK487.out 0
                          have hfz85_1 := blk_frozen BK487.out 1
                          have hfz85_2 := blk_frozen BK487.out 2
                          have hfz85_3 := blk_frozen BK487.out 3
                          go_wp2_with (first | ((with_reducible refine gate_callee (f := 24) rfl ?_); refine goesL_ (some 81) rfl rfl Tryd.func24 (by kernel_rfl) rfl #[.agg #[.int .i64 t513, .int .i64 t514, .slice Ao78 t515.length co78, .int .i64 t518], .agg #[.int .i64 t480, .int .i64 t481, .slice Ao14 t482.length co14, .int .i64 t485]] rfl (by (try simp only [List.map_toArray, List.map_cons, List.map_nil]); first | done | rfl | (simp only [List.length_drop, List.length_take]; rfl)) ?_; (with_reducible refine (laws_eqLayout.calls kj36 t513 t514 _ _ t515 t518 t480 t481 _ _ t482 t485 true _ ?side1 ?side2 ?side3 ?side4 A79.out).mono ?_); (case side1 => refine (Kd.R_reads' (e := 34) (base := w.heap.size) (ok := fun k_ => ((True ∧ some k_ ≠ (.slice Ao14 t482.length co14 : Value).ownBlock) ∧ some k_ ≠ (.slice Ao21 t493.length co21 : Value).ownBlock)) (n := t515.length) (c := co78) ?_).2.2; exact (by (with_reducible repeat (first | apply Kd.R_alloc | apply Kd.R_drewN | apply Kd.R_drew)); exact (Kd.R_mono (Kd.R_far (p := ⟨gb520, 3, none⟩) (Kd.R_far (p := ⟨gb520, 2, none⟩) (Kd.R_far (p := ⟨gb520, 1, none⟩) (Kd.R_far (p := ⟨gb520, 0, none⟩) (Kd.R_types HO517.out BK520.out (by decide)) (fun _ hk => hk.2) (.int .i64 t513)) (fun _ hk => hk.2) (.int .i64 t514)) (fun _ hk => hk.2) (.slice Ao78 t515.length co78)) (fun _ hk => hk.2) (.int .i64 t518)) (fun _ h_ => h_.1)))); (case side2 => exact (Kd.R_reads' HO517.out).2.1); (case side3 => refine (Kd.R_reads' (e := 34) (base := w.heap.size) (ok := fun k_ => (some k_ ≠ (.slice Ao21 t493.length co21 : Value).ownBlock ∧ some k_ ≠ (.slice Ao78 t515.length co78 : Value).ownBlock)) (n := t482.length) (c := co14) ?_).2.2; exact (by (with_reducible repeat (first | apply Kd.R_alloc | apply Kd.R_drewN | apply Kd.R_drew)); exact (Kd.R_mono (Kd.R_far (p := ⟨gb520, 3, none⟩) (Kd.R_far (p := ⟨gb520, 2, none⟩) (Kd.R_far (p := ⟨gb520, 1, none⟩) (Kd.R_far (p := ⟨gb520, 0, none⟩) (Kd.R_types HO_488002.out BK520.out (by decide)) (fun _ hk => hk.2) (.int .i64 t513)) (fun _ hk => hk.2) (.int .i64 t514)) (fun _ hk => hk.2) (.slice Ao78 t515.length co78)) (fun _ hk => hk.2) (.int .i64 t518)) (fun _ h_ => h_.1)))); (case side4 => exact (Kd.R_reads' HO_488002.out).2.1); rintro e w86 ⟨rfl, hb⟩; refine ⟨_, rfl, ?_⟩; have n0_ := Aside0.mk (Kd.R_below (by (with_reducible repeat (first | apply Kd.R_alloc | apply Kd.R_drewN | apply Kd.R_drew)); exact (Kd.R_mono (Kd.R_far (p := ⟨gb520, 3, none⟩) (Kd.R_far (p := ⟨gb520, 2, none⟩) (Kd.R_far (p := ⟨gb520, 1, none⟩) (Kd.R_far (p := ⟨gb520, 0, none⟩) (Kd.R_types HO_488002.out BK520.out (by decide)) (fun _ hk => hk.2) (.int .i64 t513)) (fun _ hk => hk.2) (.int .i64 t514)) (fun _ hk => hk.2) (.slice Ao78 t515.length co78)) (fun _ hk => hk.2) (.int .i64 t518)) (fun _ h_ => h_.1))) hb); have n1_ := Aside0.mk (Kd.R_below (by (with_reducible repeat (first | apply Kd.R_alloc | apply Kd.R_drewN | apply Kd.R_drew)); exact (Kd.R_mono (Kd.R_far (p := ⟨gb520, 3, none⟩) (Kd.R_far (p := ⟨gb520, 2, none⟩) (Kd.R_far (p := ⟨gb520, 1, none⟩) (Kd.R_far (p := ⟨gb520, 0, none⟩) (Kd.R_types HO_499002.out BK520.out (by decide)) (fun _ hk => hk.2) (.int .i64 t513)) (fun _ hk => hk.2) (.int .i64 t514)) (fun _ hk => hk.2) (.slice Ao78 t515.length co78)) (fun _ hk => hk.2) (.int .i64 t518)) (fun _ h_ => h_.1))) hb); have n2_ := Aside0.mk (Kd.R_below (by (with_reducible repeat (first | apply Kd.R_alloc | apply Kd.R_drewN | apply Kd.R_drew)); exact (Kd.R_mono (Kd.R_far (p := ⟨gb520, 3, none⟩) (Kd.R_far (p := ⟨gb520, 2, none⟩) (Kd.R_far (p := ⟨gb520, 1, none⟩) (Kd.R_far (p := ⟨gb520, 0, none⟩) (Kd.R_types HO512.out BK520.out (by decide)) (fun _ hk => hk.2) (.int .i64 t513)) (fun _ hk => hk.2) (.int .i64 t514)) (fun _ hk => hk.2) (.slice Ao78 t515.length co78)) (fun _ hk => hk.2) (.int .i64 t518)) (fun _ h_ => h_.1))) hb); have n3_ := Aside0.mk (Kd.R_below (by (with_reducible repeat (first | apply Kd.R_alloc | apply Kd.R_drewN | apply Kd.R_drew)); exact (Kd.R_mono (Kd.R_far (p := ⟨gb520, 3, none⟩) (Kd.R_far (p := ⟨gb520, 2, none⟩) (Kd.R_far (p := ⟨gb520, 1, none⟩) (Kd.R_far (p := ⟨gb520, 0, none⟩) (Kd.R_types HO517.out BK520.out (by decide)) (fun _ hk => hk.2) (.int .i64 t513)) (fun _ hk => hk.2) (.int .i64 t514)) (fun _ hk => hk.2) (.slice Ao78 t515.length co78)) (fun _ hk => hk.2) (.int .i64 t518)) (fun _ h_ => h_.1))) hb); have n4_ := Aside0.mk (blk_below (g := gb487) (o := .cells #[.int .i64 t480, .int .i64 t481, .slice Ao14 t482.length co14, .int .i64 t485] 30 (0, 0)) (by (with_reducible repeat (first | refine blk_drewN ?_ _ | refine blk_drew ?_ | refine blk_alloc ?_ _)); refine blk_far ?_ NB487_520.out _; (with_reducible repeat (first | refine blk_drewN ?_ _ | refine blk_drew ?_ | refine blk_alloc ?_ _)); refine blk_far ?_ NB487_520.out _; (with_reducible repeat (first | refine blk_drewN ?_ _ | refine blk_drew ?_ | refine blk_alloc ?_ _)); refine blk_far ?_ NB487_520.out _; (with_reducible repeat (first | refine blk_drewN ?_ _ | refine blk_drew ?_ | refine blk_alloc ?_ _)); refine blk_far ?_ NB487_520.out _; (with_reducible repeat (first | refine blk_drewN ?_ _ | refine blk_drew ?_ | refine blk_alloc ?_ _)); exact BK487.out) hb); have n5_ := Aside0.mk (blk_below (g := gb498) (o := .cells #[.int .i64 t491, .int .i64 t492, .slice Ao21 t493.length co21, .int .i64 t496] 30 (0, 0)) (by (with_reducible repeat (first | refine blk_drewN ?_ _ | refine blk_drew ?_ | refine blk_alloc ?_ _)); refine blk_far ?_ NB498_520.out _; (with_reducible repeat (first | refine blk_drewN ?_ _ | refine blk_drew ?_ | refine blk_alloc ?_ _)); refine blk_far ?_ NB498_520.out _; (with_reducible repeat (first | refine blk_drewN ?_ _ | refine blk_drew ?_ | refine blk_alloc ?_ _)); refine blk_far ?_ NB498_520.out _; (with_reducible repeat (first | refine blk_drewN ?_ _ | refine blk_drew ?_ | refine blk_alloc ?_ _)); refine blk_far ?_ NB498_520.out _; (with_reducible repeat (first | refine blk_drewN ?_ _ | refine blk_drew ?_ | refine blk_alloc ?_ _)); exact BK498.out) hb); have n6_ := Aside0.mk (blk_below (g := gb520) (o := .cells #[.int .i64 t513, .int .i64 t514, .slice Ao78 t515.length co78, .int .i64 t518] 30 (0, 0)) (by (with_reducible repeat (first | refine blk_drewN ?_ _ | refine blk_drew ?_ | refine blk_alloc ?_ _)); refine blk_put (cs := #[.int .i64 t513, .int .i64 t514, .slice Ao78 t515.length co78, .int .i64 0]) ?_ 3 _ rfl; (with_reducible repeat (first | refine blk_drewN ?_ _ | refine blk_drew ?_ | refine blk_alloc ?_ _)); refine blk_put (cs := #[.int .i64 t513, .int .i64 t514, .slice none 0 0, .int .i64 0]) ?_ 2 _ rfl; (with_reducible repeat (first | refine blk_drewN ?_ _ | refine blk_drew ?_ | refine blk_alloc ?_ _)); refine blk_put (cs := #[.int .i64 t513, .int .i64 0, .slice none 0 0, .int .i64 0]) ?_ 1 _ rfl; (with_reducible repeat (first | refine blk_drewN ?_ _ | refine blk_drew ?_ | refine blk_alloc ?_ _)); refine blk_put (cs := #[.int .i64 0, .int .i64 0, .slice none 0 0, .int .i64 0]) ?_ 0 _ rfl; (with_reducible repeat (first | refine blk_drewN ?_ _ | refine blk_drew ?_ | refine blk_alloc ?_ _)); exact BK520.out) hb); have n7_ := Aside0.mk (below_step (by repeat (first | (with_reducible first | exact HB.out | apply below_alloc | apply pw_below_drewN | apply below_drew1 | refine below_set ?_ GE487.out | refine below_set ?_ GE498.out | refine below_set ?_ GE520.out) | exact HB.out)) hb); clear HO_488002; clear HO_499002; clear HO512; clear HO517; clear BK487; clear BK498; clear BK520; clear HB; have HO_488002 := n0_; have HO_499002 := n1_; have HO512 := n2_; have HO517 := n3_; have BK487 := n4_; have BK498 := n5_; have BK520 := n6_; have HB := n7_; clear n0_ n1_ n2_ n3_ n4_ n5_ n6_ n7_; (try clear hb); (try clear hb2); (try clear hk); (try clear hi)))
                          go_meet
                          case rel => exact ⟨_, ((t519 != t486)), (by first | rfl | (simp; done) | (simp [*]; done)), H', ⟨by have := HJ7.out; have := HJ36.out; first | omega | exact Nat.le_refl _⟩, ⟨by (with_reducible repeat (first | apply Kd.R_alloc | apply Kd.R_drewN | apply Kd.R_drew)); exact HO_488002.out⟩, ⟨by (with_reducible repeat (first | apply Kd.R_alloc | apply Kd.R_drewN | apply Kd.R_drew)); exact HO_499002.out⟩, ⟨by (with_reducible repeat (first | apply Kd.R_alloc | apply Kd.R_drewN | apply Kd.R_drew)); exact Kd.R_mono HO517.out (fun _ hk => ⟨hk.1.2, hk.2⟩)⟩, ⟨by (with_reducible repeat (first | refine blk_drewN ?_ _ | refine blk_drew ?_ | refine blk_alloc ?_ _)); exact BK487.out⟩, ⟨by (with_reducible repeat (first | refine blk_drewN ?_ _ | refine blk_drew ?_ | refine blk_alloc ?_ _)); exact BK498.out⟩, ⟨by (with_reducible repeat (first | refine blk_drewN ?_ _ | refine blk_drew ?_ | refine blk_alloc ?_ _)); exact BK520.out⟩, ⟨by repeat (first | (with_reducible first | exact HB.out | apply below_alloc | apply pw_below_drewN | apply below_drew1 | refine below_set ?_ GE487.out | refine below_set ?_ GE498.out | refine below_set ?_ GE520.out) | exact HB.out)⟩⟩
                        · replace c80 := Bool.eq_false_iff.mpr c80
                          subst c80
                          have H1 : (laws_FnExactLayoutOf.j2 kj36 t507 true t491 t492 t508 t496) = some r := by rw [if_neg (show ¬ (false = true) by decide)] at H; exact H
                          clear H
                          have H := H1
                          clear H1
                          have H' := Aside0.mk H
                          clear H
                          have hnb87 := NB520_487.out
                          have hnc87 := NB487_520.out
                          have hnb88 := NB520_498.out
                          have hnc88 := NB498_520.out
                          have hcz89_0 : w74.cell? ⟨gb520, 0, none⟩ = some (.int .i64 0) := (blk_cell BK520.out 0).trans rfl
                          have hcz89_1 : w74.cell? ⟨gb520, 1, none⟩ = some (.int .i64 0) := (blk_cell BK520.out 1).trans rfl
                          have hcz89_2 : w74.cell? ⟨gb520, 2, none⟩ = some (.slice none 0 0) := (blk_cell BK520.out 2).trans rfl
                          have hcz89_3 : w74.cell? ⟨gb520, 3, none⟩ = some (.int .i64 0) := (blk_cell BK520.out 3).trans rfl
                          have hfz89_0 := blk_frozen BK520.out 0
                          have hfz89_1 := blk_frozen BK520.out 1
                          have hfz89_2 := blk_frozen BK520.out 2
                          have hfz89_3 := blk_frozen BK520.out 3
                          have hnb90 := NB487_498.out
                          have hnc90 := NB498_487.out
                          have hcz91_0 : w74.cell? ⟨gb487, 0, none⟩ = some (.int .i64 t480) := (blk_cell BK487.out 0).trans rfl
                          have hcz91_1 : w74.cell? ⟨gb487, 1, none⟩ = some (.int .i64 t481) := (blk_cell BK487.out 1).trans rfl
                          have hcz91_2 : w74.cell? ⟨gb487, 2, none⟩ = some (.slice Ao14 t482.length co14) := (blk_cell BK487.out 2).trans rfl
                          have hcz91_3 : w74.cell? ⟨gb487, 3, none⟩ = some (.int .i64 t485) := (blk_cell BK487.out 3).trans rfl
                          have hfz91_0 := blk_frozen BK487.out 0
                          have hfz91_1 := blk_frozen BK487.out 1
                          have hfz91_2 := blk_frozen BK487.out 2
                          have hfz91_3 := blk_frozen BK487.out 3
                          go_wp2_with (first | ((with_reducible refine gate_callee (f := 24) rfl ?_); refine goesL_ (some 81) rfl rfl Tryd.func24 (by kernel_rfl) rfl #[.agg #[.int .i64 t513, .int .i64 t514, .slice Ao78 t515.length co78, .int .i64 t518], .agg #[.int .i64 t480, .int .i64 t481, .slice Ao14 t482.length co14, .int .i64 t485]] rfl (by (try simp only [List.map_toArray, List.map_cons, List.map_nil]); first | done | rfl | (simp only [List.length_drop, List.length_take]; rfl)) ?_; (with_reducible refine (laws_eqLayout.calls kj36 t513 t514 _ _ t515 t518 t480 t481 _ _ t482 t485 false _ ?side1 ?side2 ?side3 ?side4 A79.out).mono ?_); (case side1 => refine (Kd.R_reads' (e := 34) (base := w.heap.size) (ok := fun k_ => ((True ∧ some k_ ≠ (.slice Ao14 t482.length co14 : Value).ownBlock) ∧ some k_ ≠ (.slice Ao21 t493.length co21 : Value).ownBlock)) (n := t515.length) (c := co78) ?_).2.2; exact (by (with_reducible repeat (first | apply Kd.R_alloc | apply Kd.R_drewN | apply Kd.R_drew)); exact (Kd.R_mono (Kd.R_far (p := ⟨gb520, 3, none⟩) (Kd.R_far (p := ⟨gb520, 2, none⟩) (Kd.R_far (p := ⟨gb520, 1, none⟩) (Kd.R_far (p := ⟨gb520, 0, none⟩) (Kd.R_types HO517.out BK520.out (by decide)) (fun _ hk => hk.2) (.int .i64 t513)) (fun _ hk => hk.2) (.int .i64 t514)) (fun _ hk => hk.2) (.slice Ao78 t515.length co78)) (fun _ hk => hk.2) (.int .i64 t518)) (fun _ h_ => h_.1)))); (case side2 => exact (Kd.R_reads' HO517.out).2.1); (case side3 => refine (Kd.R_reads' (e := 34) (base := w.heap.size) (ok := fun k_ => (some k_ ≠ (.slice Ao21 t493.length co21 : Value).ownBlock ∧ some k_ ≠ (.slice Ao78 t515.length co78 : Value).ownBlock)) (n := t482.length) (c := co14) ?_).2.2; exact (by (with_reducible repeat (first | apply Kd.R_alloc | apply Kd.R_drewN | apply Kd.R_drew)); exact (Kd.R_mono (Kd.R_far (p := ⟨gb520, 3, none⟩) (Kd.R_far (p := ⟨gb520, 2, none⟩) (Kd.R_far (p := ⟨gb520, 1, none⟩) (Kd.R_far (p := ⟨gb520, 0, none⟩) (Kd.R_types HO_488002.out BK520.out (by decide)) (fun _ hk => hk.2) (.int .i64 t513)) (fun _ hk => hk.2) (.int .i64 t514)) (fun _ hk => hk.2) (.slice Ao78 t515.length co78)) (fun _ hk => hk.2) (.int .i64 t518)) (fun _ h_ => h_.1)))); (case side4 => exact (Kd.R_reads' HO_488002.out).2.1); rintro e w92 ⟨rfl, hb⟩; refine ⟨_, rfl, ?_⟩; have n0_ := Aside0.mk (Kd.R_below (by (with_reducible repeat (first | apply Kd.R_alloc | apply Kd.R_drewN | apply Kd.R_drew)); exact (Kd.R_mono (Kd.R_far (p := ⟨gb520, 3, none⟩) (Kd.R_far (p := ⟨gb520, 2, none⟩) (Kd.R_far (p := ⟨gb520, 1, none⟩) (Kd.R_far (p := ⟨gb520, 0, none⟩) (Kd.R_types HO_488002.out BK520.out (by decide)) (fun _ hk => hk.2) (.int .i64 t513)) (fun _ hk => hk.2) (.int .i64 t514)) (fun _ hk => hk.2) (.slice Ao78 t515.length co78)) (fun _ hk => hk.2) (.int .i64 t518)) (fun _ h_ => h_.1))) hb); have n1_ := Aside0.mk (Kd.R_below (by (with_reducible repeat (first | apply Kd.R_alloc | apply Kd.R_drewN | apply Kd.R_drew)); exact (Kd.R_mono (Kd.R_far (p := ⟨gb520, 3, none⟩) (Kd.R_far (p := ⟨gb520, 2, none⟩) (Kd.R_far (p := ⟨gb520, 1, none⟩) (Kd.R_far (p := ⟨gb520, 0, none⟩) (Kd.R_types HO_499002.out BK520.out (by decide)) (fun _ hk => hk.2) (.int .i64 t513)) (fun _ hk => hk.2) (.int .i64 t514)) (fun _ hk => hk.2) (.slice Ao78 t515.length co78)) (fun _ hk => hk.2) (.int .i64 t518)) (fun _ h_ => h_.1))) hb); have n2_ := Aside0.mk (Kd.R_below (by (with_reducible repeat (first | apply Kd.R_alloc | apply Kd.R_drewN | apply Kd.R_drew)); exact (Kd.R_mono (Kd.R_far (p := ⟨gb520, 3, none⟩) (Kd.R_far (p := ⟨gb520, 2, none⟩) (Kd.R_far (p := ⟨gb520, 1, none⟩) (Kd.R_far (p := ⟨gb520, 0, none⟩) (Kd.R_types HO512.out BK520.out (by decide)) (fun _ hk => hk.2) (.int .i64 t513)) (fun _ hk => hk.2) (.int .i64 t514)) (fun _ hk => hk.2) (.slice Ao78 t515.length co78)) (fun _ hk => hk.2) (.int .i64 t518)) (fun _ h_ => h_.1))) hb); have n3_ := Aside0.mk (Kd.R_below (by (with_reducible repeat (first | apply Kd.R_alloc | apply Kd.R_drewN | apply Kd.R_drew)); exact (Kd.R_mono (Kd.R_far (p := ⟨gb520, 3, none⟩) (Kd.R_far (p := ⟨gb520, 2, none⟩) (Kd.R_far (p := ⟨gb520, 1, none⟩) (Kd.R_far (p := ⟨gb520, 0, none⟩) (Kd.R_types HO517.out BK520.out (by decide)) (fun _ hk => hk.2) (.int .i64 t513)) (fun _ hk => hk.2) (.int .i64 t514)) (fun _ hk => hk.2) (.slice Ao78 t515.length co78)) (fun _ hk => hk.2) (.int .i64 t518)) (fun _ h_ => h_.1))) hb); have n4_ := Aside0.mk (blk_below (g := gb487) (o := .cells #[.int .i64 t480, .int .i64 t481, .slice Ao14 t482.length co14, .int .i64 t485] 30 (0, 0)) (by (with_reducible repeat (first | refine blk_drewN ?_ _ | refine blk_drew ?_ | refine blk_alloc ?_ _)); refine blk_far ?_ NB487_520.out _; (with_reducible repeat (first | refine blk_drewN ?_ _ | refine blk_drew ?_ | refine blk_alloc ?_ _)); refine blk_far ?_ NB487_520.out _; (with_reducible repeat (first | refine blk_drewN ?_ _ | refine blk_drew ?_ | refine blk_alloc ?_ _)); refine blk_far ?_ NB487_520.out _; (with_reducible repeat (first | refine blk_drewN ?_ _ | refine blk_drew ?_ | refine blk_alloc ?_ _)); refine blk_far ?_ NB487_520.out _; (with_reducible repeat (first | refine blk_drewN ?_ _ | refine blk_drew ?_ | refine blk_alloc ?_ _)); exact BK487.out) hb); have n5_ := Aside0.mk (blk_below (g := gb498) (o := .cells #[.int .i64 t491, .int .i64 t492, .slice Ao21 t493.length co21, .int .i64 t496] 30 (0, 0)) (by (with_reducible repeat (first | refine blk_drewN ?_ _ | refine blk_drew ?_ | refine blk_alloc ?_ _)); refine blk_far ?_ NB498_520.out _; (with_reducible repeat (first | refine blk_drewN ?_ _ | refine blk_drew ?_ | refine blk_alloc ?_ _)); refine blk_far ?_ NB498_520.out _; (with_reducible repeat (first | refine blk_drewN ?_ _ | refine blk_drew ?_ | refine blk_alloc ?_ _)); refine blk_far ?_ NB498_520.out _; (with_reducible repeat (first | refine blk_drewN ?_ _ | refine blk_drew ?_ | refine blk_alloc ?_ _)); refine blk_far ?_ NB498_520.out _; (with_reducible repeat (first | refine blk_drewN ?_ _ | refine blk_drew ?_ | refine blk_alloc ?_ _)); exact BK498.out) hb); have n6_ := Aside0.mk (blk_below (g := gb520) (o := .cells #[.int .i64 t513, .int .i64 t514, .slice Ao78 t515.length co78, .int .i64 t518] 30 (0, 0)) (by (with_reducible repeat (first | refine blk_drewN ?_ _ | refine blk_drew ?_ | refine blk_alloc ?_ _)); refine blk_put (cs := #[.int .i64 t513, .int .i64 t514, .slice Ao78 t515.length co78, .int .i64 0]) ?_ 3 _ rfl; (with_reducible repeat (first | refine blk_drewN ?_ _ | refine blk_drew ?_ | refine blk_alloc ?_ _)); refine blk_put (cs := #[.int .i64 t513, .int .i64 t514, .slice none 0 0, .int .i64 0]) ?_ 2 _ rfl; (with_reducible repeat (first | refine blk_drewN ?_ _ | refine blk_drew ?_ | refine blk_alloc ?_ _)); refine blk_put (cs := #[.int .i64 t513, .int .i64 0, .slice none 0 0, .int .i64 0]) ?_ 1 _ rfl; (with_reducible repeat (first | refine blk_drewN ?_ _ | refine blk_drew ?_ | refine blk_alloc ?_ _)); refine blk_put (cs := #[.int .i64 0, .int .i64 0, .slice none 0 0, .int .i64 0]) ?_ 0 _ rfl; (with_reducible repeat (first | refine blk_drewN ?_ _ | refine blk_drew ?_ | refine blk_alloc ?_ _)); exact BK520.out) hb); have n7_ := Aside0.mk (below_step (by repeat (first | (with_reducible first | exact HB.out | apply below_alloc | apply pw_below_drewN | apply below_drew1 | refine below_set ?_ GE487.out | refine below_set ?_ GE498.out | refine below_set ?_ GE520.out) | exact HB.out)) hb); clear HO_488002; clear HO_499002; clear HO512; clear HO517; clear BK487; clear BK498; clear BK520; clear HB; have HO_488002 := n0_; have HO_499002 := n1_; have HO512 := n2_; have HO517 := n3_; have BK487 := n4_; have BK498 := n5_; have BK520 := n6_; have HB := n7_; clear n0_ n1_ n2_ n3_ n4_ n5_ n6_ n7_; (try clear hb); (try clear hb2); (try clear hk); (try clear hi)))
                          go_meet
                          case rel => exact ⟨_, (true), (by first | rfl | (simp; done) | (simp [*]; done)), H', ⟨by have := HJ7.out; have := HJ36.out; first | omega | exact Nat.le_refl _⟩, ⟨by (with_reducible repeat (first | apply Kd.R_alloc | apply Kd.R_drewN | apply Kd.R_drew)); exact HO_488002.out⟩, ⟨by (with_reducible repeat (first | apply Kd.R_alloc | apply Kd.R_drewN | apply Kd.R_drew)); exact HO_499002.out⟩, ⟨by (with_reducible repeat (first | apply Kd.R_alloc | apply Kd.R_drewN | apply Kd.R_drew)); exact Kd.R_mono HO517.out (fun _ hk => ⟨hk.1.2, hk.2⟩)⟩, ⟨by (with_reducible repeat (first | refine blk_drewN ?_ _ | refine blk_drew ?_ | refine blk_alloc ?_ _)); exact BK487.out⟩, ⟨by (with_reducible repeat (first | refine blk_drewN ?_ _ | refine blk_drew ?_ | refine blk_alloc ?_ _)); exact BK498.out⟩, ⟨by (with_reducible repeat (first | refine blk_drewN ?_ _ | refine blk_drew ?_ | refine blk_alloc ?_ _)); exact BK520.out⟩, ⟨by repeat (first | (with_reducible first | exact HB.out | apply below_alloc | apply pw_below_drewN | apply below_drew1 | refine below_set ?_ GE487.out | refine below_set ?_ GE498.out | refine below_set ?_ GE520.out) | exact HB.out)⟩⟩
                      case rest =>
                        clear HC65
                        try clear c1
                        try clear c2
                        try clear p2
                        try clear c3
                        try clear c3b0
                        try clear c4
                        try clear c5
                        try clear c6
                        try clear c7
                        try clear c8
                        try clear c9
                        try clear c10
                        try clear c14
                        try clear c15
                        try clear c17
                        try clear c19
                        try clear c21
                        try clear c23
                        try clear c24
                        try clear c25
                        try clear c26
                        try clear c27
                        try clear c28
                        try clear c32
                        try clear c35
                        try clear c42
                        try clear c42b0
                        try clear c44
                        try clear c45
                        try clear c49
                        try clear c53
                        try clear c56
                        try clear c56b0
                        try clear c57
                        try clear c62
                        try clear c62b0
                        try clear c62b1
                        try clear c66
                        try clear c75
                        try clear c76
                        try clear c80
                        try clear c81
                        try clear c82
                        try clear c84
                        try clear c87
                        try clear c88
                        try clear c90
                        try clear hcz13_0
                        try clear hcz13_1
                        try clear hcz13_2
                        try clear hcz13_3
                        try clear hcz20_0
                        try clear hcz20_1
                        try clear hcz20_2
                        try clear hcz20_3
                        try clear hcz25_0
                        try clear hcz25_1
                        try clear hcz25_2
                        try clear hcz25_3
                        try clear hcz26_0
                        try clear hcz26_1
                        try clear hcz26_2
                        try clear hcz26_3
                        try clear hcz29_0
                        try clear hcz29_1
                        try clear hcz29_2
                        try clear hcz29_3
                        try clear hcz30_0
                        try clear hcz30_1
                        try clear hcz30_2
                        try clear hcz30_3
                        try clear hcz46_0
                        try clear hcz46_1
                        try clear hcz46_2
                        try clear hcz46_3
                        try clear hcz47_0
                        try clear hcz47_1
                        try clear hcz47_2
                        try clear hcz47_3
                        try clear hcz50_0
                        try clear hcz50_1
                        try clear hcz50_2
                        try clear hcz50_3
                        try clear hcz51_0
                        try clear hcz51_1
                        try clear hcz51_2
                        try clear hcz51_3
                        try clear hcz58_0
                        try clear hcz58_1
                        try clear hcz58_2
                        try clear hcz58_3
                        try clear hcz60_0
                        try clear hcz60_1
                        try clear hcz60_2
                        try clear hcz60_3
                        try clear hcz67_0
                        try clear hcz67_1
                        try clear hcz67_2
                        try clear hcz67_3
                        try clear hcz69_0
                        try clear hcz69_1
                        try clear hcz69_2
                        try clear hcz69_3
                        try clear hcz77_0
                        try clear hcz77_1
                        try clear hcz77_2
                        try clear hcz77_3
                        try clear hcz83_0
                        try clear hcz83_1
                        try clear hcz83_2
                        try clear hcz83_3
                        try clear hcz85_0
                        try clear hcz85_1
                        try clear hcz85_2
                        try clear hcz85_3
                        try clear hcz89_0
                        try clear hcz89_1
                        try clear hcz89_2
                        try clear hcz89_3
                        try clear hcz91_0
                        try clear hcz91_1
                        try clear hcz91_2
                        try clear hcz91_3
                        try clear hfz13_0
                        try clear hfz13_1
                        try clear hfz13_2
                        try clear hfz13_3
                        try clear hfz20_0
                        try clear hfz20_1
                        try clear hfz20_2
                        try clear hfz20_3
                        try clear hfz25_0
                        try clear hfz25_1
                        try clear hfz25_2
                        try clear hfz25_3
                        try clear hfz26_0
                        try clear hfz26_1
                        try clear hfz26_2
                        try clear hfz26_3
                        try clear hfz29_0
                        try clear hfz29_1
                        try clear hfz29_2
                        try clear hfz29_3
                        try clear hfz30_0
                        try clear hfz30_1
                        try clear hfz30_2
                        try clear hfz30_3
                        try clear hfz46_0
                        try clear hfz46_1
                        try clear hfz46_2
                        try clear hfz46_3
                        try clear hfz47_0
                        try clear hfz47_1
                        try clear hfz47_2
                        try clear hfz47_3
                        try clear hfz50_0
                        try clear hfz50_1
                        try clear hfz50_2
                        try clear hfz50_3
                        try clear hfz51_0
                        try clear hfz51_1
                        try clear hfz51_2
                        try clear hfz51_3
                        try clear hfz58_0
                        try clear hfz58_1
                        try clear hfz58_2
                        try clear hfz58_3
                        try clear hfz60_0
                        try clear hfz60_1
                        try clear hfz60_2
                        try clear hfz60_3
                        try clear hfz67_0
                        try clear hfz67_1
                        try clear hfz67_2
                        try clear hfz67_3
                        try clear hfz69_0
                        try clear hfz69_1
                        try clear hfz69_2
                        try clear hfz69_3
                        try clear hfz77_0
                        try clear hfz77_1
                        try clear hfz77_2
                        try clear hfz77_3
                        try clear hfz83_0
                        try clear hfz83_1
                        try clear hfz83_2
                        try clear hfz83_3
                        try clear hfz85_0
                        try clear hfz85_1
                        try clear hfz85_2
                        try clear hfz85_3
                        try clear hfz89_0
                        try clear hfz89_1
                        try clear hfz89_2
                        try clear hfz89_3
                        try clear hfz91_0
                        try clear hfz91_1
                        try clear hfz91_2
                        try clear hfz91_3
                        try clear p2
                        obtain ⟨kq, x87_64, rfl, HA, HJ64, HO_488002, HO_499002, HO_521002, BK487, BK498, BK520, HB⟩ := hcut
                        have hl499002_64 := (Kd.R_reads' HO_499002.out).1
                        rw [hl499002_64] at HO_499002
                        (try simp only [hl499002_64])
                        (try simp only [hl499002_64] at BK487)
                        (try simp only [hl499002_64] at BK498)
                        (try simp only [hl499002_64] at BK520)
                        (try simp only [hl499002_64] at HO_488002)
                        (try simp only [hl499002_64] at HO_521002)
                        cases kq with
                        | zero => exact absurd HA.out (by simp [laws_FnExactLayoutOf.j2])
                        | succ kj64 =>
                          have H := HA.out
                          clear HA
                          simp only [laws_FnExactLayoutOf.j2] at H
                          by_cases c93 : x87_64 = true
                          · subst c93
                            have H1 : (some false) = some r := by rw [if_pos rfl] at H; exact H
                            clear H
                            have H := H1
                            clear H1
                            obtain rfl := Option.some.inj H
                            go_wp2
                            go_ret
                            exact ⟨by first | rfl | (simp [errW_none, errW_some] <;> rfl) | (simp [*, errW_none, errW_some] <;> rfl) | (simp only [Bool.and_eq_true, beq_iff_eq, Bool.not_eq_true', Bool.not_eq_eq_eq_not, Bool.not_true, Bool.not_false] at *; simp [*]), by repeat (first | (with_reducible first | exact HB.out | apply below_alloc | apply pw_below_drewN | apply below_drew1 | refine below_set ?_ GE487.out | refine below_set ?_ GE498.out | refine below_set ?_ GE520.out) | exact HB.out)⟩
                          · replace c93 := Bool.eq_false_iff.mpr c93
                            subst c93
                            have H1 : ((laws_heldLayout.f kj64 t491 t492 t508 t496 1).bind fun t522 => (if t522 < 0 then (some false) else (if t522 = t507 then (some true) else (some false)))) = some r := by rw [if_neg (show ¬ (false = true) by decide)] at H; exact H
                            clear H
                            have H := H1
                            clear H1
                            replace H := Option.bind_eq_some_iff.mp H
                            obtain ⟨t522, A940, H⟩ := H
                            replace H : (if t522 < 0 then (some false) else (if t522 = t507 then (some true) else (some false))) = some r := H
                            have A94 := Aside0.mk A940
                            clear A940
                            by_cases c95 : t522 < 0
                            · rw [if_pos c95] at H
                              have c95b0 : decide (t522 < 0) = true := decide_eq_true c95
                              clear c95
                              obtain rfl := Option.some.inj H
                              have hnb96 := NB498_487.out
                              have hnc96 := NB487_498.out
                              have hnb97 := NB498_520.out
                              have hnc97 := NB520_498.out
                              have hcz98_0 : wc.cell? ⟨gb498, 0, none⟩ = some (.int .i64 t491) := (blk_cell BK498.out 0).trans rfl
                              have hcz98_1 : wc.cell? ⟨gb498, 1, none⟩ = some (.int .i64 t492) := (blk_cell BK498.out 1).trans rfl
                              have hcz98_2 : wc.cell? ⟨gb498, 2, none⟩ = some (.slice Ao21 t508.length co21) := (blk_cell BK498.out 2).trans rfl
                              have hcz98_3 : wc.cell? ⟨gb498, 3, none⟩ = some (.int .i64 t496) := (blk_cell BK498.out 3).trans rfl
                              have hfz98_0 := blk_frozen BK498.out 0
                              have hfz98_1 := blk_frozen BK498.out 1
                              have hfz98_2 := blk_frozen BK498.out 2
                              have hfz98_3 := blk_frozen BK498.out 3
                              go_wp2_with (first | ((with_reducible refine gate_callee (f := 27) rfl ?_); refine goesL_ (some 90) rfl rfl Tryd.func27 (by kernel_rfl) rfl #[.agg #[.int .i64 t491, .int .i64 t492, .slice Ao21 t508.length co21, .int .i64 t496], .int .i64 1] rfl (by (try simp only [List.map_toArray, List.map_cons, List.map_nil]); first | done | rfl | (simp only [List.length_drop, List.length_take]; rfl)) ?_; (with_reducible refine (laws_heldLayout.calls kj64 t491 t492 _ _ t508 t496 1 t522 _ ?side1 ?side2 A94.out).mono ?_); (case side1 => repeat (first | exact (Kd.R_reads' HO_499002.out).2.2 | (with_reducible refine Kd.C_alloc ?_ _) | (with_reducible refine Kd.C_drewN ?_ _) | (with_reducible refine Kd.C_drew ?_))); (case side2 => exact (Kd.R_reads' HO_499002.out).2.1); rintro e w99 ⟨rfl, hb⟩; refine ⟨_, rfl, ?_⟩; have n0_ := Aside0.mk (Kd.R_below (by (with_reducible repeat (first | apply Kd.R_alloc | apply Kd.R_drewN | apply Kd.R_drew)); exact HO_488002.out) hb); have n1_ := Aside0.mk (Kd.R_below (by (with_reducible repeat (first | apply Kd.R_alloc | apply Kd.R_drewN | apply Kd.R_drew)); exact HO_499002.out) hb); have n2_ := Aside0.mk (Kd.R_below (by (with_reducible repeat (first | apply Kd.R_alloc | apply Kd.R_drewN | apply Kd.R_drew)); exact HO_521002.out) hb); have n3_ := Aside0.mk (blk_below (g := gb487) (o := .cells #[.int .i64 t480, .int .i64 t481, .slice Ao14 t482.length co14, .int .i64 t485] 30 (0, 0)) (by (with_reducible repeat (first | refine blk_drewN ?_ _ | refine blk_drew ?_ | refine blk_alloc ?_ _)); exact BK487.out) hb); have n4_ := Aside0.mk (blk_below (g := gb498) (o := .cells #[.int .i64 t491, .int .i64 t492, .slice Ao21 t508.length co21, .int .i64 t496] 30 (0, 0)) (by (with_reducible repeat (first | refine blk_drewN ?_ _ | refine blk_drew ?_ | refine blk_alloc ?_ _)); exact BK498.out) hb); have n5_ := Aside0.mk (blk_below (g := gb520) (o := .cells #[.int .i64 t513, .int .i64 t514, .slice Ao78 t515.length co78, .int .i64 t518] 30 (0, 0)) (by (with_reducible repeat (first | refine blk_drewN ?_ _ | refine blk_drew ?_ | refine blk_alloc ?_ _)); exact BK520.out) hb); have n6_ := Aside0.mk (below_step (by repeat (first | (with_reducible first | exact HB.out | apply below_alloc | apply pw_below_drewN | apply below_drew1 | refine below_set ?_ GE487.out | refine below_set ?_ GE498.out | refine below_set ?_ GE520.out) | exact HB.out)) hb); clear HO_488002; clear HO_499002; clear HO_521002; clear BK487; clear BK498; clear BK520; clear HB; have HO_488002 := n0_; have HO_499002 := n1_; have HO_521002 := n2_; have BK487 := n3_; have BK498 := n4_; have BK520 := n5_; have HB := n6_; clear n0_ n1_ n2_ n3_ n4_ n5_ n6_; (try clear hb); (try clear hb2); (try clear hk); (try clear hi)))
                              go_ret
                              exact ⟨by first | rfl | (simp [errW_none, errW_some] <;> rfl) | (simp [*, errW_none, errW_some] <;> rfl) | (simp only [Bool.and_eq_true, beq_iff_eq, Bool.not_eq_true', Bool.not_eq_eq_eq_not, Bool.not_true, Bool.not_false] at *; simp [*]), by repeat (first | (with_reducible first | exact HB.out | apply below_alloc | apply pw_below_drewN | apply below_drew1 | refine below_set ?_ GE487.out | refine below_set ?_ GE498.out | refine below_set ?_ GE520.out) | exact HB.out)⟩
                            · rw [if_neg c95] at H
                              have c95b0 : decide (t522 < 0) = false := decide_eq_false c95
                              clear c95
                              by_cases c100 : t522 = t507
                              · rw [if_pos c100] at H
                                have c100b0 : (t522 == t507) = true := beq_iff_eq.mpr c100
                                have c100b1 : (t522 != t507) = false := bne_eq_false_iff_eq.mpr c100
                                clear c100
                                obtain rfl := Option.some.inj H
                                have hnb101 := NB498_487.out
                                have hnc101 := NB487_498.out
                                have hnb102 := NB498_520.out
                                have hnc102 := NB520_498.out
                                have hcz103_0 : wc.cell? ⟨gb498, 0, none⟩ = some (.int .i64 t491) := (blk_cell BK498.out 0).trans rfl
                                have hcz103_1 : wc.cell? ⟨gb498, 1, none⟩ = some (.int .i64 t492) := (blk_cell BK498.out 1).trans rfl
                                have hcz103_2 : wc.cell? ⟨gb498, 2, none⟩ = some (.slice Ao21 t508.length co21) := (blk_cell BK498.out 2).trans rfl
                                have hcz103_3 : wc.cell? ⟨gb498, 3, none⟩ = some (.int .i64 t496) := (blk_cell BK498.out 3).trans rfl
                                have hfz103_0 := blk_frozen BK498.out 0
                                have hfz103_1 := blk_frozen BK498.out 1
                                have hfz103_2 := blk_frozen BK498.out 2
                                have hfz103_3 := blk_frozen BK498.out 3
                                go_wp2_with (first | ((with_reducible refine gate_callee (f := 27) rfl ?_); refine goesL_ (some 90) rfl rfl Tryd.func27 (by kernel_rfl) rfl #[.agg #[.int .i64 t491, .int .i64 t492, .slice Ao21 t508.length co21, .int .i64 t496], .int .i64 1] rfl (by (try simp only [List.map_toArray, List.map_cons, List.map_nil]); first | done | rfl | (simp only [List.length_drop, List.length_take]; rfl)) ?_; (with_reducible refine (laws_heldLayout.calls kj64 t491 t492 _ _ t508 t496 1 t522 _ ?side1 ?side2 A94.out).mono ?_); (case side1 => repeat (first | exact (Kd.R_reads' HO_499002.out).2.2 | (with_reducible refine Kd.C_alloc ?_ _) | (with_reducible refine Kd.C_drewN ?_ _) | (with_reducible refine Kd.C_drew ?_))); (case side2 => exact (Kd.R_reads' HO_499002.out).2.1); rintro e w104 ⟨rfl, hb⟩; refine ⟨_, rfl, ?_⟩; have n0_ := Aside0.mk (Kd.R_below (by (with_reducible repeat (first | apply Kd.R_alloc | apply Kd.R_drewN | apply Kd.R_drew)); exact HO_488002.out) hb); have n1_ := Aside0.mk (Kd.R_below (by (with_reducible repeat (first | apply Kd.R_alloc | apply Kd.R_drewN | apply Kd.R_drew)); exact HO_499002.out) hb); have n2_ := Aside0.mk (Kd.R_below (by (with_reducible repeat (first | apply Kd.R_alloc | apply Kd.R_drewN | apply Kd.R_drew)); exact HO_521002.out) hb); have n3_ := Aside0.mk (blk_below (g := gb487) (o := .cells #[.int .i64 t480, .int .i64 t481, .slice Ao14 t482.length co14, .int .i64 t485] 30 (0, 0)) (by (with_reducible repeat (first | refine blk_drewN ?_ _ | refine blk_drew ?_ | refine blk_alloc ?_ _)); exact BK487.out) hb); have n4_ := Aside0.mk (blk_below (g := gb498) (o := .cells #[.int .i64 t491, .int .i64 t492, .slice Ao21 t508.length co21, .int .i64 t496] 30 (0, 0)) (by (with_reducible repeat (first | refine blk_drewN ?_ _ | refine blk_drew ?_ | refine blk_alloc ?_ _)); exact BK498.out) hb); have n5_ := Aside0.mk (blk_below (g := gb520) (o := .cells #[.int .i64 t513, .int .i64 t514, .slice Ao78 t515.length co78, .int .i64 t518] 30 (0, 0)) (by (with_reducible repeat (first | refine blk_drewN ?_ _ | refine blk_drew ?_ | refine blk_alloc ?_ _)); exact BK520.out) hb); have n6_ := Aside0.mk (below_step (by repeat (first | (with_reducible first | exact HB.out | apply below_alloc | apply pw_below_drewN | apply below_drew1 | refine below_set ?_ GE487.out | refine below_set ?_ GE498.out | refine below_set ?_ GE520.out) | exact HB.out)) hb); clear HO_488002; clear HO_499002; clear HO_521002; clear BK487; clear BK498; clear BK520; clear HB; have HO_488002 := n0_; have HO_499002 := n1_; have HO_521002 := n2_; have BK487 := n3_; have BK498 := n4_; have BK520 := n5_; have HB := n6_; clear n0_ n1_ n2_ n3_ n4_ n5_ n6_; (try clear hb); (try clear hb2); (try clear hk); (try clear hi)))
                                go_ret
                                exact ⟨by first | rfl | (simp [errW_none, errW_some] <;> rfl) | (simp [*, errW_none, errW_some] <;> rfl) | (simp only [Bool.and_eq_true, beq_iff_eq, Bool.not_eq_true', Bool.not_eq_eq_eq_not, Bool.not_true, Bool.not_false] at *; simp [*]), by repeat (first | (with_reducible first | exact HB.out | apply below_alloc | apply pw_below_drewN | apply below_drew1 | refine below_set ?_ GE487.out | refine below_set ?_ GE498.out | refine below_set ?_ GE520.out) | exact HB.out)⟩
                              · rw [if_neg c100] at H
                                have c100b0 : (t522 == t507) = false := beq_eq_false_iff_ne.mpr c100
                                have c100b1 : (t522 != t507) = true := bne_iff_ne.mpr c100
                                obtain rfl := Option.some.inj H
                                have hnb105 := NB498_487.out
                                have hnc105 := NB487_498.out
                                have hnb106 := NB498_520.out
                                have hnc106 := NB520_498.out
                                have hcz107_0 : wc.cell? ⟨gb498, 0, none⟩ = some (.int .i64 t491) := (blk_cell BK498.out 0).trans rfl
                                have hcz107_1 : wc.cell? ⟨gb498, 1, none⟩ = some (.int .i64 t492) := (blk_cell BK498.out 1).trans rfl
                                have hcz107_2 : wc.cell? ⟨gb498, 2, none⟩ = some (.slice Ao21 t508.length co21) := (blk_cell BK498.out 2).trans rfl
                                have hcz107_3 : wc.cell? ⟨gb498, 3, none⟩ = some (.int .i64 t496) := (blk_cell BK498.out 3).trans rfl
                                have hfz107_0 := blk_frozen BK498.out 0
                                have hfz107_1 := blk_frozen BK498.out 1
                                have hfz107_2 := blk_frozen BK498.out 2
                                have hfz107_3 := blk_frozen BK498.out 3
                                go_wp2_with (first | ((with_reducible refine gate_callee (f := 27) rfl ?_); refine goesL_ (some 90) rfl rfl Tryd.func27 (by kernel_rfl) rfl #[.agg #[.int .i64 t491, .int .i64 t492, .slice Ao21 t508.length co21, .int .i64 t496], .int .i64 1] rfl (by (try simp only [List.map_toArray, List.map_cons, List.map_nil]); first | done | rfl | (simp only [List.length_drop, List.length_take]; rfl)) ?_; (with_reducible refine (laws_heldLayout.calls kj64 t491 t492 _ _ t508 t496 1 t522 _ ?side1 ?side2 A94.out).mono ?_); (case side1 => repeat (first | exact (Kd.R_reads' HO_499002.out).2.2 | (with_reducible refine Kd.C_alloc ?_ _) | (with_reducible refine Kd.C_drewN ?_ _) | (with_reducible refine Kd.C_drew ?_))); (case side2 => exact (Kd.R_reads' HO_499002.out).2.1); rintro e w108 ⟨rfl, hb⟩; refine ⟨_, rfl, ?_⟩; have n0_ := Aside0.mk (Kd.R_below (by (with_reducible repeat (first | apply Kd.R_alloc | apply Kd.R_drewN | apply Kd.R_drew)); exact HO_488002.out) hb); have n1_ := Aside0.mk (Kd.R_below (by (with_reducible repeat (first | apply Kd.R_alloc | apply Kd.R_drewN | apply Kd.R_drew)); exact HO_499002.out) hb); have n2_ := Aside0.mk (Kd.R_below (by (with_reducible repeat (first | apply Kd.R_alloc | apply Kd.R_drewN | apply Kd.R_drew)); exact HO_521002.out) hb); have n3_ := Aside0.mk (blk_below (g := gb487) (o := .cells #[.int .i64 t480, .int .i64 t481, .slice Ao14 t482.length co14, .int .i64 t485] 30 (0, 0)) (by (with_reducible repeat (first | refine blk_drewN ?_ _ | refine blk_drew ?_ | refine blk_alloc ?_ _)); exact BK487.out) hb); have n4_ := Aside0.mk (blk_below (g := gb498) (o := .cells #[.int .i64 t491, .int .i64 t492, .slice Ao21 t508.length co21, .int .i64 t496] 30 (0, 0)) (by (with_reducible repeat (first | refine blk_drewN ?_ _ | refine blk_drew ?_ | refine blk_alloc ?_ _)); exact BK498.out) hb); have n5_ := Aside0.mk (blk_below (g := gb520) (o := .cells #[.int .i64 t513, .int .i64 t514, .slice Ao78 t515.length co78, .int .i64 t518] 30 (0, 0)) (by (with_reducible repeat (first | refine blk_drewN ?_ _ | refine blk_drew ?_ | refine blk_alloc ?_ _)); exact BK520.out) hb); have n6_ := Aside0.mk (below_step (by repeat (first | (with_reducible first | exact HB.out | apply below_alloc | apply pw_below_drewN | apply below_drew1 | refine below_set ?_ GE487.out | refine below_set ?_ GE498.out | refine below_set ?_ GE520.out) | exact HB.out)) hb); clear HO_488002; clear HO_499002; clear HO_521002; clear BK487; clear BK498; clear BK520; clear HB; have HO_488002 := n0_; have HO_499002 := n1_; have HO_521002 := n2_; have BK487 := n3_; have BK498 := n4_; have BK520 := n5_; have HB := n6_; clear n0_ n1_ n2_ n3_ n4_ n5_ n6_; (try clear hb); (try clear hb2); (try clear hk); (try clear hi)))
                                go_ret
                                exact ⟨by first | rfl | (simp [errW_none, errW_some] <;> rfl) | (simp [*, errW_none, errW_some] <;> rfl) | (simp only [Bool.and_eq_true, beq_iff_eq, Bool.not_eq_true', Bool.not_eq_eq_eq_not, Bool.not_true, Bool.not_false] at *; simp [*]), by repeat (first | (with_reducible first | exact HB.out | apply below_alloc | apply pw_below_drewN | apply below_drew1 | refine below_set ?_ GE487.out | refine below_set ?_ GE498.out | refine below_set ?_ GE520.out) | exact HB.out)⟩
                    · rw [if_neg c62] at H
                      have c62b0 : (t509 == t507) = false := beq_eq_false_iff_ne.mpr c62
                      have c62b1 : (t509 != t507) = true := bne_iff_ne.mpr c62
                      obtain rfl := Option.some.inj H
                      have hnb109 := NB498_487.out
                      have hnc109 := NB487_498.out
                      have hcz110_0 : wc.cell? ⟨gb498, 0, none⟩ = some (.int .i64 t491) := (blk_cell BK498.out 0).trans rfl
                      have hcz110_1 : wc.cell? ⟨gb498, 1, none⟩ = some (.int .i64 t492) := (blk_cell BK498.out 1).trans rfl
                      have hcz110_2 : wc.cell? ⟨gb498, 2, none⟩ = some (.slice Ao21 t493.length co21) := (blk_cell BK498.out 2).trans rfl
                      have hcz110_3 : wc.cell? ⟨gb498, 3, none⟩ = some (.int .i64 t496) := (blk_cell BK498.out 3).trans rfl
                      have hfz110_0 := blk_frozen BK498.out 0
                      have hfz110_1 := blk_frozen BK498.out 1
                      have hfz110_2 := blk_frozen BK498.out 2
                      have hfz110_3 := blk_frozen BK498.out 3
                      go_wp2_with (first | ((with_reducible refine gate_callee (f := 26) rfl ?_); refine goesL_ (some 64) rfl rfl Tryd.func26 (by kernel_rfl) rfl #[.agg #[.int .i64 t491, .int .i64 t492, .slice Ao21 t493.length co21, .int .i64 t496], .int .i64 1] rfl (by (try simp only [List.map_toArray, List.map_cons, List.map_nil]); first | done | rfl | (simp only [List.length_drop, List.length_take]; rfl)) ?_; (with_reducible refine (laws_markLayout.calls kj36 t491 t492 (fun k_ => some k_ = (.slice Ao21 t493.length co21 : Value).ownBlock) (.slice Ao21 t493.length co21) t493 t496 1 t507 t508 w _ ?side1 ?side2 A54.out).mono ?_); (case side1 => repeat (first | (with_reducible first | exact HB.out | apply below_alloc | apply pw_below_drewN | apply below_drew1 | refine below_set ?_ GE487.out | refine below_set ?_ GE498.out) | exact HB.out)); (case side2 => exact Kd.R_tight rfl HO_499002.out); rintro e w111 ⟨rfl, hy0, hb, hkp⟩; refine ⟨_, rfl, ?_⟩; have n0_ := Aside0.mk (Kd.R_mono (ok' := fun k_ => some k_ ≠ (.slice Ao21 t493.length co21 : Value).ownBlock) (Kd.R_keptB (HO_488002.out) hkp (fun k_ hk_ hs_ => (hk_) hs_)) (fun k_ hk_ => hk_.1)); have n1_ := Aside0.mk (Kd.R_reok rfl hy0 (fun k_ e_ => HO_499002.out.1 k_ e_)); have n2_ := Aside0.mk (blk_kept (by (with_reducible repeat (first | refine blk_drewN ?_ _ | refine blk_drew ?_ | refine blk_alloc ?_ _)); exact BK487.out) hkp (fun hs_ => (fun e_ => (Kd.R_ne HO_499002.out BK487.out (by decide)) e_) hs_)); have n3_ := Aside0.mk (blk_kept (by (with_reducible repeat (first | refine blk_drewN ?_ _ | refine blk_drew ?_ | refine blk_alloc ?_ _)); exact BK498.out) hkp (fun hs_ => (fun e_ => (Kd.R_ne HO_499002.out BK498.out (by decide)) e_) hs_)); have n4_ := Aside0.mk (hb); clear HO_488002; clear HO_499002; clear BK487; clear BK498; clear HB; have HO_488002 := n0_; have HO_499002 := n1_; have BK487 := n2_; have BK498 := n3_; have HB := n4_; clear n0_ n1_ n2_ n3_ n4_; (try clear hb); (try clear hkp); (try clear hy0); have hcz112_0 : w111.cell? ⟨gb498, 0, none⟩ = some (.int .i64 t491) := (blk_cell BK498.out 0).trans rfl; have hcz112_1 : w111.cell? ⟨gb498, 1, none⟩ = some (.int .i64 t492) := (blk_cell BK498.out 1).trans rfl; have hcz112_2 : w111.cell? ⟨gb498, 2, none⟩ = some (.slice Ao21 t493.length co21) := (blk_cell BK498.out 2).trans rfl; have hcz112_3 : w111.cell? ⟨gb498, 3, none⟩ = some (.int .i64 t496) := (blk_cell BK498.out 3).trans rfl; have hfz112_0 := blk_frozen BK498.out 0; have hfz112_1 := blk_frozen BK498.out 1; have hfz112_2 := blk_frozen BK498.out 2; have hfz112_3 := blk_frozen BK498.out 3) | ((with_reducible refine gate_callee (f := 27) rfl ?_); refine goesL_ (some 67) rfl rfl Tryd.func27 (by kernel_rfl) rfl #[.agg #[.int .i64 t491, .int .i64 t492, .slice Ao21 t508.length co21, .int .i64 t496], .int .i64 1] rfl (by (try simp only [List.map_toArray, List.map_cons, List.map_nil]); first | done | (rw [show t508.length = t493.length from (Kd.R_reads' HO_499002.out).1.symm] <;> rfl) | rfl | (simp only [List.length_drop, List.length_take]; rfl)) ?_; (with_reducible refine (laws_heldLayout.calls kj36 t491 t492 _ _ t508 t496 1 t509 _ ?side1 ?side2 A55.out).mono ?_); (case side1 => repeat (first | exact (Kd.R_reads' HO_499002.out).2.2 | (with_reducible refine Kd.C_alloc ?_ _) | (with_reducible refine Kd.C_drewN ?_ _) | (with_reducible refine Kd.C_drew ?_))); (case side2 => rw [show t508.length = t493.length from (Kd.R_reads' HO_499002.out).1.symm]; exact (Kd.R_reads' HO_499002.out).2.1); rintro e w113 ⟨rfl, hb⟩; refine ⟨_, rfl, ?_⟩; have n0_ := Aside0.mk (Kd.R_below (by (with_reducible repeat (first | apply Kd.R_alloc | apply Kd.R_drewN | apply Kd.R_drew)); exact HO_488002.out) hb); have n1_ := Aside0.mk (Kd.R_below (by (with_reducible repeat (first | apply Kd.R_alloc | apply Kd.R_drewN | apply Kd.R_drew)); exact HO_499002.out) hb); have n2_ := Aside0.mk (blk_below (g := gb487) (o := .cells #[.int .i64 t480, .int .i64 t481, .slice Ao14 t482.length co14, .int .i64 t485] 30 (0, 0)) (by (with_reducible repeat (first | refine blk_drewN ?_ _ | refine blk_drew ?_ | refine blk_alloc ?_ _)); exact BK487.out) hb); have n3_ := Aside0.mk (blk_below (g := gb498) (o := .cells #[.int .i64 t491, .int .i64 t492, .slice Ao21 t493.length co21, .int .i64 t496] 30 (0, 0)) (by (with_reducible repeat (first | refine blk_drewN ?_ _ | refine blk_drew ?_ | refine blk_alloc ?_ _)); exact BK498.out) hb); have n4_ := Aside0.mk (below_step (by repeat (first | (with_reducible first | exact HB.out | apply below_alloc | apply pw_below_drewN | apply below_drew1 | refine below_set ?_ GE487.out | refine below_set ?_ GE498.out) | exact HB.out)) hb); clear HO_488002; clear HO_499002; clear BK487; clear BK498; clear HB; have HO_488002 := n0_; have HO_499002 := n1_; have BK487 := n2_; have BK498 := n3_; have HB := n4_; clear n0_ n1_ n2_ n3_ n4_; (try clear hb); (try clear hb2); (try clear hk); (try clear hi)))
                      go_ret
                      exact ⟨by first | rfl | (simp [errW_none, errW_some] <;> rfl) | (simp [*, errW_none, errW_some] <;> rfl) | (simp only [Bool.and_eq_true, beq_iff_eq, Bool.not_eq_true', Bool.not_eq_eq_eq_not, Bool.not_true, Bool.not_false] at *; simp [*]), by repeat (first | (with_reducible first | exact HB.out | apply below_alloc | apply pw_below_drewN | apply below_drew1 | refine below_set ?_ GE487.out | refine below_set ?_ GE498.out) | exact HB.out)⟩
          · replace c35 := Bool.eq_false_iff.mpr c35
            subst c35
            have H1 : (some false) = some r := by rw [if_neg (show ¬ (false = true) by decide)] at H; exact H
            clear H
            have H := H1
            clear H1
            obtain rfl := Option.some.inj H
            go_wp2_with (first | ((with_reducible refine gate_callee (f := 17) rfl ?_); refine goesL_ (some 43) rfl rfl Tryd.func17 (by kernel_rfl) rfl #[.slice A0 l0.length c0] rfl (by (try simp only [List.map_toArray, List.map_cons, List.map_nil]); first | done | rfl | (simp only [List.length_drop, List.length_take]; rfl)) ?_; (with_reducible refine (laws_toFieldS.calls kj7 _ _ l0 t500 _ ?side1 ?side2 A33.out).mono ?_); (case side1 => repeat (first | exact (Kd.C_below HR0.out HB.out) | (with_reducible refine Kd.C_alloc ?_ _) | (with_reducible refine Kd.C_drewN ?_ _) | (with_reducible refine Kd.C_drew ?_))); (case side2 => exact HC0.out); rintro e w114 ⟨v501, rfl, ho0, hb⟩; refine ⟨_, rfl, ?_⟩; have n0_ := Aside0.mk (Kd.R_elder' (by (with_reducible repeat (first | apply Kd.R_alloc | apply Kd.R_drewN | apply Kd.R_drew)); exact HO_6.out) (Kd.R_base ho0) hb); have n1_ := Aside0.mk (Kd.R_below (by (with_reducible repeat (first | apply Kd.R_alloc | apply Kd.R_drewN | apply Kd.R_drew)); exact HO_488002.out) hb); have n2_ := Aside0.mk (Kd.R_below (by (with_reducible repeat (first | apply Kd.R_alloc | apply Kd.R_drewN | apply Kd.R_drew)); exact HO_499002.out) hb); have n3_ := Aside0.mk (Kd.R_lower (Kd.R_new' ho0 (Kd.R_lt (by (with_reducible repeat (first | apply Kd.R_alloc | apply Kd.R_drewN | apply Kd.R_drew)); exact HO_6.out))) (below_size (by repeat (first | (with_reducible first | exact HB.out | apply below_alloc | apply pw_below_drewN | apply below_drew1 | refine below_set ?_ GE487.out | refine below_set ?_ GE498.out) | exact HB.out)))); have n4_ := Aside0.mk (blk_below (g := gb487) (o := .cells #[.int .i64 t480, .int .i64 t481, .slice Ao14 t482.length co14, .int .i64 t485] 30 (0, 0)) (by (with_reducible repeat (first | refine blk_drewN ?_ _ | refine blk_drew ?_ | refine blk_alloc ?_ _)); exact BK487.out) hb); have n5_ := Aside0.mk (blk_below (g := gb498) (o := .cells #[.int .i64 t491, .int .i64 t492, .slice Ao21 t493.length co21, .int .i64 t496] 30 (0, 0)) (by (with_reducible repeat (first | refine blk_drewN ?_ _ | refine blk_drew ?_ | refine blk_alloc ?_ _)); exact BK498.out) hb); have n6_ := Aside0.mk (below_step (by repeat (first | (with_reducible first | exact HB.out | apply below_alloc | apply pw_below_drewN | apply below_drew1 | refine below_set ?_ GE487.out | refine below_set ?_ GE498.out) | exact HB.out)) hb); clear HO_6; clear HO_488002; clear HO_499002; clear BK487; clear BK498; clear HB; have HO_6 := n0_; have HO_488002 := n1_; have HO_499002 := n2_; have HO502 := n3_; have BK487 := n4_; have BK498 := n5_; have HB := n6_; clear n0_ n1_ n2_ n3_ n4_ n5_ n6_; (try clear hb); (try clear hb2); (try clear hk); (try clear hi); (try clear ho0); obtain ⟨Ao115, co115, eo115⟩ := Kd.R_slice HO502.out; subst eo115) | ((with_reducible refine gate_callee (f := 19) rfl ?_); refine goesL_ (some 44) rfl rfl Tryd.func19 (by kernel_rfl) rfl #[.slice Ao16 t488.length co16, .slice Ao115 t500.length co115] rfl (by (try simp only [List.map_toArray, List.map_cons, List.map_nil]); first | done | rfl | (simp only [List.length_drop, List.length_take]; rfl)) ?_; (with_reducible refine (laws_eqFieldS.calls kj7 _ _ t488 _ _ t500 false _ ?side1 ?side2 ?side3 ?side4 A34.out).mono ?_); (case side1 => repeat (first | exact (Kd.R_reads' HO_6.out).2.2 | (with_reducible refine Kd.C_alloc ?_ _) | (with_reducible refine Kd.C_drewN ?_ _) | (with_reducible refine Kd.C_drew ?_))); (case side2 => exact (Kd.R_reads' HO_6.out).2.1); (case side3 => repeat (first | exact (Kd.R_reads' HO502.out).2.2 | (with_reducible refine Kd.C_alloc ?_ _) | (with_reducible refine Kd.C_drewN ?_ _) | (with_reducible refine Kd.C_drew ?_))); (case side4 => exact (Kd.R_reads' HO502.out).2.1); rintro e w116 ⟨rfl, hb⟩; refine ⟨_, rfl, ?_⟩; have n0_ := Aside0.mk (Kd.R_below (by (with_reducible repeat (first | apply Kd.R_alloc | apply Kd.R_drewN | apply Kd.R_drew)); exact HO_6.out) hb); have n1_ := Aside0.mk (Kd.R_below (by (with_reducible repeat (first | apply Kd.R_alloc | apply Kd.R_drewN | apply Kd.R_drew)); exact HO_488002.out) hb); have n2_ := Aside0.mk (Kd.R_below (by (with_reducible repeat (first | apply Kd.R_alloc | apply Kd.R_drewN | apply Kd.R_drew)); exact HO_499002.out) hb); have n3_ := Aside0.mk (Kd.R_below (by (with_reducible repeat (first | apply Kd.R_alloc | apply Kd.R_drewN | apply Kd.R_drew)); exact HO502.out) hb); have n4_ := Aside0.mk (blk_below (g := gb487) (o := .cells #[.int .i64 t480, .int .i64 t481, .slice Ao14 t482.length co14, .int .i64 t485] 30 (0, 0)) (by (with_reducible repeat (first | refine blk_drewN ?_ _ | refine blk_drew ?_ | refine blk_alloc ?_ _)); exact BK487.out) hb); have n5_ := Aside0.mk (blk_below (g := gb498) (o := .cells #[.int .i64 t491, .int .i64 t492, .slice Ao21 t493.length co21, .int .i64 t496] 30 (0, 0)) (by (with_reducible repeat (first | refine blk_drewN ?_ _ | refine blk_drew ?_ | refine blk_alloc ?_ _)); exact BK498.out) hb); have n6_ := Aside0.mk (below_step (by repeat (first | (with_reducible first | exact HB.out | apply below_alloc | apply pw_below_drewN | apply below_drew1 | refine below_set ?_ GE487.out | refine below_set ?_ GE498.out) | exact HB.out)) hb); clear HO_6; clear HO_488002; clear HO_499002; clear HO502; clear BK487; clear BK498; clear HB; have HO_6 := n0_; have HO_488002 := n1_; have HO_499002 := n2_; have HO502 := n3_; have BK487 := n4_; have BK498 := n5_; have HB := n6_; clear n0_ n1_ n2_ n3_ n4_ n5_ n6_; (try clear hb); (try clear hb2); (try clear hk); (try clear hi)))
            go_ret
            exact ⟨by first | rfl | (simp [errW_none, errW_some] <;> rfl) | (simp [*, errW_none, errW_some] <;> rfl) | (simp only [Bool.and_eq_true, beq_iff_eq, Bool.not_eq_true', Bool.not_eq_eq_eq_not, Bool.not_true, Bool.not_false] at *; simp [*]), by repeat (first | (with_reducible first | exact HB.out | apply below_alloc | apply pw_below_drewN | apply below_drew1 | refine below_set ?_ GE487.out | refine below_set ?_ GE498.out) | exact HB.out)⟩

end Go.Proofs.YtjjcepnadjociaaDoor.P
