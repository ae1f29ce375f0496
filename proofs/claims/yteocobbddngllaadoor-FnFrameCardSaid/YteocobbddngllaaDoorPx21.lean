-- PRINTED by print.py (a twelfth state) out of the translation. Not trusted: Lean checks it.
import Derived.Test.YteocobbddngllaaDoorStubStrTrim
import Derived.Test.YteocobbddngllaaDoorPx0
import Derived.Test.YteocobbddngllaaDoorPx20
namespace Go.Proofs.YteocobbddngllaaDoor.P
open Go.RowKit Go.Proofs.YteocobbddngllaaDoorW.PrintWords Go.Proofs.YteocobbddngllaaDoorW.PrintLast Go.Proofs.YteocobbddngllaaDoorW.PrintMore
attribute [local go_sem] max2_int min2_int max_two min_two max_three min_three max_four min_four   -- for this text's walks alone
set_option linter.unusedVariables false
set_option linter.unusedSimpArgs false

/-! ### impl_FrameGet: function 16 -/
mutual
def impl_FrameGet.l0 : Nat → ByteArray → Int → Int → List Int → Int → Int → Int → Option (List ByteArray × Int)
  | 0, _, _, _, _, _, _, _ => none
  | k + 1, x0, x4, x5, x6, x7, x32, x33 => if x33 < x32 then ((impl_fetch.f k x0 (wrap64 (4 * (wrap64 (x33 + 1)))) 4).bind fun t217 => (if x6.length < 17592186044416 then ((some (x6 ++ [t217] : List Int)).bind fun y218 => (if 0 ≤ x33 then (if x33 < (y218.length : Int) then (impl_FrameGet.l0 k x0 x4 x5 y218 (wrap64 (x7 + (rd y218 x33))) x32 (wrap64 (x33 + 1))) else (none)) else (none))) else (none))) else (if x7 > 200 then (impl_FrameGet.j1 k x0 x5 x6 x7 true) else (if 0 ≤ (wrap64 (4 * (wrap64 (x4 + 1)))) then (if (wrap64 (4 * (wrap64 (x4 + 1)))) ≤ x5 then (if x5 ≤ (x0.size : Int) then ((strings_Trim.f (x0.extract ((wrap64 (4 * (wrap64 (x4 + 1)))) : Int).toNat (x5 : Int).toNat) (⟨#[0]⟩ : ByteArray)).bind fun t222 => (impl_FrameGet.j1 k x0 x5 x6 x7 (t222.toList != ([] : List UInt8)))) else (none)) else (none)) else (none)))
def impl_FrameGet.j1 : Nat → ByteArray → Int → List Int → Int → Bool → Option (List ByteArray × Int)
  | 0, _, _, _, _, _ => none
  | k + 1, x0, x5, x6, x7, x62 => if x62 = true then (some (([] : List ByteArray), (-1))) else (if (x0.size : Int) < (wrap64 (x5 + (wrap64 (8 * x7)))) then (some (([] : List ByteArray), 0)) else (impl_FrameGet.l1 k x0 ([] : List ByteArray) x5 x6 (x6.length : Int) 0))
def impl_FrameGet.l1 : Nat → ByteArray → List ByteArray → Int → List Int → Int → Int → Option (List ByteArray × Int)
  | 0, _, _, _, _, _, _ => none
  | k + 1, x0, x9, x10, x71, x72, x73 => if x73 < x72 then (if 0 ≤ x73 then (if x73 < (x71.length : Int) then (if 0 ≤ x10 then (if x10 ≤ (wrap64 (x10 + (wrap64 (8 * (rd x71 x73))))) then (if (wrap64 (x10 + (wrap64 (8 * (rd x71 x73))))) ≤ (x0.size : Int) then (if x9.length < 8796093022208 then (impl_FrameGet.l1 k x0 (x9 ++ [x0.extract (x10 : Int).toNat ((wrap64 (x10 + (wrap64 (8 * (rd x71 x73))))) : Int).toNat]) (wrap64 (x10 + (wrap64 (8 * (rd x71 x73))))) x71 x72 (wrap64 (x73 + 1))) else (none)) else (none)) else (none)) else (none)) else (none)) else (none)) else (some (x9, x10))
end
def impl_FrameGet.f (k : Nat) (a0 : ByteArray) : Option (List ByteArray × Int) := if (a0.size : Int) < 4 then (some (([] : List ByteArray), 0)) else ((impl_fetch.f k a0 0 4).bind fun t216 => (if (wrap64 (t216 + 1)) > 6 then (some (([] : List ByteArray), (-1))) else (if (a0.size : Int) < (wrap64 ((wrap64 (Int.tdiv (wrap64 ((wrap64 ((wrap64 (4 * (wrap64 ((wrap64 (t216 + 1)) + 1)))) + 8)) - 1)) 8)) * 8)) then (some (([] : List ByteArray), 0)) else (impl_FrameGet.l0 k a0 (wrap64 (t216 + 1)) (wrap64 ((wrap64 (Int.tdiv (wrap64 ((wrap64 ((wrap64 (4 * (wrap64 ((wrap64 (t216 + 1)) + 1)))) + 8)) - 1)) 8)) * 8)) ([] : List Int) 0 (wrap64 (t216 + 1)) 0))))
theorem impl_FrameGet.mono_l : ∀ k, (∀ y0 y1 y2 y3 y4 y5 y6, LeO (impl_FrameGet.l0 k y0 y1 y2 y3 y4 y5 y6) (impl_FrameGet.l0 (k + 1) y0 y1 y2 y3 y4 y5 y6)) ∧ (∀ y0 y1 y2 y3 y4, LeO (impl_FrameGet.j1 k y0 y1 y2 y3 y4) (impl_FrameGet.j1 (k + 1) y0 y1 y2 y3 y4)) ∧ (∀ y0 y1 y2 y3 y4 y5, LeO (impl_FrameGet.l1 k y0 y1 y2 y3 y4 y5) (impl_FrameGet.l1 (k + 1) y0 y1 y2 y3 y4 y5))
  | 0 => ⟨fun _ _ _ _ _ _ _ r h => by simp [impl_FrameGet.l0] at h, fun _ _ _ _ _ r h => by simp [impl_FrameGet.j1] at h, fun _ _ _ _ _ _ r h => by simp [impl_FrameGet.l1] at h⟩
  | k + 1 => by
    obtain ⟨ih0, ih1, ih2⟩ := impl_FrameGet.mono_l k
    refine ⟨?_, ?_, ?_⟩
    · intro y0 y1 y2 y3 y4 y5 y6
      unfold impl_FrameGet.l0
      repeat' first
      | (with_reducible exact ih0 _ _ _ _ _ _ _)
      | (with_reducible exact ih1 _ _ _ _ _)
      | (with_reducible exact ih2 _ _ _ _ _ _)
      | (with_reducible exact impl_fetch.mono _ _ _ _)
      | (with_reducible exact LeO.refl _)
      | (with_reducible exact LeO.none _)
      | (with_reducible refine LeO.ite ?_ ?_)
      | (with_reducible refine LeO.bind ?_ (fun _ => ?_))
      | exact ih0 _ _ _ _ _ _ _
      | exact ih1 _ _ _ _ _
      | exact ih2 _ _ _ _ _ _
      | exact impl_fetch.mono _ _ _ _
      | exact LeO.none _
      | refine LeO.ite ?_ ?_
      | refine LeO.bind ?_ (fun _ => ?_)
    · intro y0 y1 y2 y3 y4
      unfold impl_FrameGet.j1
      repeat' first
      | (with_reducible exact ih0 _ _ _ _ _ _ _)
      | (with_reducible exact ih1 _ _ _ _ _)
      | (with_reducible exact ih2 _ _ _ _ _ _)
      | (with_reducible exact impl_fetch.mono _ _ _ _)
      | (with_reducible exact LeO.refl _)
      | (with_reducible exact LeO.none _)
      | (with_reducible refine LeO.ite ?_ ?_)
      | (with_reducible refine LeO.bind ?_ (fun _ => ?_))
      | exact ih0 _ _ _ _ _ _ _
      | exact ih1 _ _ _ _ _
      | exact ih2 _ _ _ _ _ _
      | exact impl_fetch.mono _ _ _ _
      | exact LeO.none _
      | refine LeO.ite ?_ ?_
      | refine LeO.bind ?_ (fun _ => ?_)
    · intro y0 y1 y2 y3 y4 y5
      unfold impl_FrameGet.l1
      repeat' first
      | (with_reducible exact ih0 _ _ _ _ _ _ _)
      | (with_reducible exact ih1 _ _ _ _ _)
      | (with_reducible exact ih2 _ _ _ _ _ _)
      | (with_reducible exact impl_fetch.mono _ _ _ _)
      | (with_reducible exact LeO.refl _)
      | (with_reducible exact LeO.none _)
      | (with_reducible refine LeO.ite ?_ ?_)
      | (with_reducible refine LeO.bind ?_ (fun _ => ?_))
      | exact ih0 _ _ _ _ _ _ _
      | exact ih1 _ _ _ _ _
      | exact ih2 _ _ _ _ _ _
      | exact impl_fetch.mono _ _ _ _
      | exact LeO.none _
      | refine LeO.ite ?_ ?_
      | refine LeO.bind ?_ (fun _ => ?_)
theorem impl_FrameGet.mono : ∀ a0 k, LeO (impl_FrameGet.f k a0) (impl_FrameGet.f (k + 1) a0) := by
  intro a0 k
  obtain ⟨ih0, ih1, ih2⟩ := impl_FrameGet.mono_l k
  unfold impl_FrameGet.f
  repeat' first
      | (with_reducible exact ih0 _ _ _ _ _ _ _)
      | (with_reducible exact ih1 _ _ _ _ _)
      | (with_reducible exact ih2 _ _ _ _ _ _)
      | (with_reducible exact impl_fetch.mono _ _ _ _)
      | (with_reducible exact LeO.refl _)
      | (with_reducible exact LeO.none _)
      | (with_reducible refine LeO.ite ?_ ?_)
      | (with_reducible refine LeO.bind ?_ (fun _ => ?_))
      | exact ih0 _ _ _ _ _ _ _
      | exact ih1 _ _ _ _ _
      | exact ih2 _ _ _ _ _ _
      | exact impl_fetch.mono _ _ _ _
      | exact LeO.none _
      | refine LeO.ite ?_ ?_
      | refine LeO.bind ?_ (fun _ => ?_)
set_option maxHeartbeats 8000000 in
set_option maxRecDepth 100000 in
theorem impl_FrameGet.calls (k : Nat) (a0 : ByteArray) (r1 : List ByteArray) (r2 : Int) (w : World) (h : impl_FrameGet.f k a0 = some (r1, r2)) :
    Calls Tryd.prog 16 #[.string a0] w fun e w' => ∃ v0_ : Value, e = .returned (.tuple #[v0_, .int .i64 r2]) ∧ Kd.R Kd.string 9 w' w.heap.size (fun _ => True) v0_ r1 ∧ Below w.heap.size w w' := by
  have HB := Aside0.mk (Below.refl w.heap.size w)
  have H : (if (a0.size : Int) < 4 then (some (([] : List ByteArray), 0)) else ((impl_fetch.f k a0 0 4).bind fun t216 => (if (wrap64 (t216 + 1)) > 6 then (some (([] : List ByteArray), (-1))) else (if (a0.size : Int) < (wrap64 ((wrap64 (Int.tdiv (wrap64 ((wrap64 ((wrap64 (4 * (wrap64 ((wrap64 (t216 + 1)) + 1)))) + 8)) - 1)) 8)) * 8)) then (some (([] : List ByteArray), 0)) else (impl_FrameGet.l0 k a0 (wrap64 (t216 + 1)) (wrap64 ((wrap64 (Int.tdiv (wrap64 ((wrap64 ((wrap64 (4 * (wrap64 ((wrap64 (t216 + 1)) + 1)))) + 8)) - 1)) 8)) * 8)) ([] : List Int) 0 (wrap64 (t216 + 1)) 0))))) = some (r1, r2) := h
  clear h
  by_cases c2 : (a0.size : Int) < 4
  · rw [if_pos c2] at H
    have c2b0 : decide ((a0.size : Int) < 4) = true := decide_eq_true c2
    have c2b1 : decide (a0.size < 4) = true := decide_eq_true (by omega)
    clear c2
    simp only [Option.some.injEq, Prod.mk.injEq] at H
    obtain ⟨rfl, rfl⟩ := H
    go_enter Tryd.func16, Tryd.ntmps16
    go_wp2
    go_ret2
    exact ⟨_, by first | rfl | (simp [errW_none, errW_some] <;> rfl) | (simp [*, errW_none, errW_some] <;> rfl), by first | exact Kd.R_nil _ _ _ _ _ | exact Kd.N_nil _ _ _ _ _ | exact Kd.V_nil _ _ _ _ _ | exact Kd.Q_nil _ _ _ _ _ | exact Kd.S_nil _ _ _ _ _, by repeat (first | (with_reducible first | exact HB.out | apply below_alloc | apply pw_below_drewN | apply below_drew1) | exact HB.out)⟩
  · rw [if_neg c2] at H
    have c2b0 : decide ((a0.size : Int) < 4) = false := decide_eq_false c2
    have c2b1 : decide (a0.size < 4) = false := decide_eq_false (by omega)
    clear c2
    replace H := Option.bind_eq_some_iff.mp H
    obtain ⟨t216, A30, H⟩ := H
    replace H : (if (wrap64 (t216 + 1)) > 6 then (some (([] : List ByteArray), (-1))) else (if (a0.size : Int) < (wrap64 ((wrap64 (Int.tdiv (wrap64 ((wrap64 ((wrap64 (4 * (wrap64 ((wrap64 (t216 + 1)) + 1)))) + 8)) - 1)) 8)) * 8)) then (some (([] : List ByteArray), 0)) else (impl_FrameGet.l0 k a0 (wrap64 (t216 + 1)) (wrap64 ((wrap64 (Int.tdiv (wrap64 ((wrap64 ((wrap64 (4 * (wrap64 ((wrap64 (t216 + 1)) + 1)))) + 8)) - 1)) 8)) * 8)) ([] : List Int) 0 (wrap64 (t216 + 1)) 0))) = some (r1, r2) := H
    have A3 := Aside0.mk A30
    clear A30
    by_cases c4 : (wrap64 (t216 + 1)) > 6
    · rw [if_pos c4] at H
      have c4b0 : decide (6 < (wrap64 (t216 + 1))) = true := decide_eq_true c4
      clear c4
      simp only [Option.some.injEq, Prod.mk.injEq] at H
      obtain ⟨rfl, rfl⟩ := H
      go_enter Tryd.func16, Tryd.ntmps16
      go_wp2_with (first | ((with_reducible refine gate_callee (f := 43) rfl ?_); refine goesL_ (some 17) rfl rfl Tryd.func43 (by kernel_rfl) rfl #[.string a0, .int .i64 0, .int .i64 4] rfl (by (try simp only [List.map_toArray, List.map_cons, List.map_nil]); first | done | rfl | (simp only [List.length_drop, List.length_take]; rfl)) ?_; (with_reducible refine (impl_fetch.calls k a0 0 4 t216 _ A3.out).mono ?_); rintro e w' ⟨rfl, ⟨nd, rfl⟩⟩; refine ⟨_, rfl, ?_⟩))
      go_ret2
      exact ⟨_, by first | rfl | (simp [errW_none, errW_some] <;> rfl) | (simp [*, errW_none, errW_some] <;> rfl), by first | exact Kd.R_nil _ _ _ _ _ | exact Kd.N_nil _ _ _ _ _ | exact Kd.V_nil _ _ _ _ _ | exact Kd.Q_nil _ _ _ _ _ | exact Kd.S_nil _ _ _ _ _, by repeat (first | (with_reducible first | exact HB.out | apply below_alloc | apply pw_below_drewN | apply below_drew1) | exact HB.out)⟩
    · rw [if_neg c4] at H
      have c4b0 : decide (6 < (wrap64 (t216 + 1))) = false := decide_eq_false c4
      clear c4
      by_cases c5 : (a0.size : Int) < (wrap64 ((wrap64 (Int.tdiv (wrap64 ((wrap64 ((wrap64 (4 * (wrap64 ((wrap64 (t216 + 1)) + 1)))) + 8)) - 1)) 8)) * 8))
      · rw [if_pos c5] at H
        have c5b0 : decide ((a0.size : Int) < (wrap64 ((wrap64 (Int.tdiv (wrap64 ((wrap64 ((wrap64 (4 * (wrap64 ((wrap64 (t216 + 1)) + 1)))) + 8)) - 1)) 8)) * 8))) = true := decide_eq_true c5
        clear c5
        simp only [Option.some.injEq, Prod.mk.injEq] at H
        obtain ⟨rfl, rfl⟩ := H
        go_enter Tryd.func16, Tryd.ntmps16
        go_wp2_with (first | ((with_reducible refine gate_callee (f := 43) rfl ?_); refine goesL_ (some 17) rfl rfl Tryd.func43 (by kernel_rfl) rfl #[.string a0, .int .i64 0, .int .i64 4] rfl (by (try simp only [List.map_toArray, List.map_cons, List.map_nil]); first | done | rfl | (simp only [List.length_drop, List.length_take]; rfl)) ?_; (with_reducible refine (impl_fetch.calls k a0 0 4 t216 _ A3.out).mono ?_); rintro e w' ⟨rfl, ⟨nd, rfl⟩⟩; refine ⟨_, rfl, ?_⟩))
        go_ret2
        exact ⟨_, by first | rfl | (simp [errW_none, errW_some] <;> rfl) | (simp [*, errW_none, errW_some] <;> rfl), by first | exact Kd.R_nil _ _ _ _ _ | exact Kd.N_nil _ _ _ _ _ | exact Kd.V_nil _ _ _ _ _ | exact Kd.Q_nil _ _ _ _ _ | exact Kd.S_nil _ _ _ _ _, by repeat (first | (with_reducible first | exact HB.out | apply below_alloc | apply pw_below_drewN | apply below_drew1) | exact HB.out)⟩
      · rw [if_neg c5] at H
        have c5b0 : decide ((a0.size : Int) < (wrap64 ((wrap64 (Int.tdiv (wrap64 ((wrap64 ((wrap64 (4 * (wrap64 ((wrap64 (t216 + 1)) + 1)))) + 8)) - 1)) 8)) * 8))) = false := decide_eq_false c5
        clear c5
        have H' := Aside0.mk H
        clear H
        go_enter Tryd.func16, Tryd.ntmps16
        go_wp2_with (first | ((with_reducible refine gate_callee (f := 43) rfl ?_); refine goesL_ (some 17) rfl rfl Tryd.func43 (by kernel_rfl) rfl #[.string a0, .int .i64 0, .int .i64 4] rfl (by (try simp only [List.map_toArray, List.map_cons, List.map_nil]); first | done | rfl | (simp only [List.length_drop, List.length_take]; rfl)) ?_; (with_reducible refine (impl_fetch.calls k a0 0 4 t216 _ A3.out).mono ?_); rintro e w' ⟨rfl, ⟨nd, rfl⟩⟩; refine ⟨_, rfl, ?_⟩))
        go_loopg [6, 7, 33] k (fun kq v6 v7 v33 w' => ∃ (x6_1 : List Int) (x7_1 : Int) (x33_1 : Int), v7 = .int .i64 x7_1 ∧ v33 = .int .i64 x33_1 ∧ Aside0 (impl_FrameGet.l0 kq a0 (wrap64 (t216 + 1)) (wrap64 ((wrap64 (Int.tdiv (wrap64 ((wrap64 ((wrap64 (4 * (wrap64 ((wrap64 (t216 + 1)) + 1)))) + 8)) - 1)) 8)) * 8)) x6_1 x7_1 (wrap64 (t216 + 1)) x33_1 = some (r1, r2)) ∧ Aside0 (kq ≤ k) ∧ Aside0 (Kd.R (Kd.int .i64) 3 w' w.heap.size (fun _ => True) v6 x6_1) ∧ Aside0 (Below w.heap.size w w'))
        case atStart => exact ⟨(([] : List Int)), (0), (0), (by first | rfl | (simp; done) | (simp [*]; done)), (by first | rfl | (simp; done) | (simp [*]; done)), H', ⟨Nat.le_refl _⟩, ⟨by first | exact Kd.R_nil _ _ _ _ _ | exact Kd.N_nil _ _ _ _ _ | exact Kd.V_nil _ _ _ _ _ | exact Kd.Q_nil _ _ _ _ _ | exact Kd.S_nil _ _ _ _ _⟩, ⟨by repeat (first | (with_reducible first | exact HB.out | apply below_alloc | apply pw_below_drewN | apply below_drew1) | exact HB.out)⟩⟩
        case round =>
          clear H'
          try clear c1
          try clear c2
          try clear c2b0
          try clear c2b1
          try clear p2
          try clear c4
          try clear c4b0
          try clear c5
          try clear c5b0
          obtain ⟨x6_1, x7_1, x33_1, rfl, rfl, HA, HK1, HO_6, HB⟩ := hrel
          cases gk with
          | zero => exact absurd HA.out (by simp [impl_FrameGet.l0])
          | succ k1 =>
            have H := HA.out
            clear HA
            simp only [impl_FrameGet.l0] at H
            by_cases c6 : x33_1 < (wrap64 (t216 + 1))
            · rw [if_pos c6] at H
              have c6b0 : decide (x33_1 < (wrap64 (t216 + 1))) = true := decide_eq_true c6
              clear c6
              replace H := Option.bind_eq_some_iff.mp H
              obtain ⟨t217, A70, H⟩ := H
              replace H : (if x6_1.length < 17592186044416 then ((some (x6_1 ++ [t217] : List Int)).bind fun y218 => (if 0 ≤ x33_1 then (if x33_1 < (y218.length : Int) then (impl_FrameGet.l0 k1 a0 (wrap64 (t216 + 1)) (wrap64 ((wrap64 (Int.tdiv (wrap64 ((wrap64 ((wrap64 (4 * (wrap64 ((wrap64 (t216 + 1)) + 1)))) + 8)) - 1)) 8)) * 8)) y218 (wrap64 (x7_1 + (rd y218 x33_1))) (wrap64 (t216 + 1)) (wrap64 (x33_1 + 1))) else (none)) else (none))) else (none)) = some (r1, r2) := H
              have A7 := Aside0.mk A70
              clear A70
              by_cases c8 : x6_1.length < 17592186044416
              · rw [if_pos c8] at H
                have LMc8 := Aside0.mk c8
                clear c8
                obtain ⟨y218, hy218⟩ : ∃ y_ : List Int, y_ = (x6_1 ++ [t217]) := ⟨_, rfl⟩
                replace H : (if 0 ≤ x33_1 then (if x33_1 < (y218.length : Int) then (impl_FrameGet.l0 k1 a0 (wrap64 (t216 + 1)) (wrap64 ((wrap64 (Int.tdiv (wrap64 ((wrap64 ((wrap64 (4 * (wrap64 ((wrap64 (t216 + 1)) + 1)))) + 8)) - 1)) 8)) * 8)) y218 (wrap64 (x7_1 + (rd y218 x33_1))) (wrap64 (t216 + 1)) (wrap64 (x33_1 + 1))) else (none)) else (none)) = some (r1, r2) := by first | (rw [hy218]; with_reducible exact H) | (have H2_ := (Option.bind_some _ _).symm.trans H; rw [hy218]; with_reducible exact H2_) | (have H2_ := (Option.bind_some _ _).symm.trans H; with_reducible exact H2_) | with_reducible exact H | (rw [hy218]; exact H) | exact H
                have Ny218 := Aside0.mk hy218
                clear hy218
                by_cases c9 : 0 ≤ x33_1
                · rw [if_pos c9] at H
                  have c9b0 : decide (0 ≤ x33_1) = true := decide_eq_true c9
                  clear c9
                  by_cases c10 : x33_1 < (y218.length : Int)
                  · rw [if_pos c10] at H
                    have c10b0 : decide (x33_1 < (y218.length : Int)) = true := decide_eq_true c10
                    clear c10
                    have H' := Aside0.mk H
                    clear H
                    go_wp2_with (first | ((with_reducible refine gate_callee (f := 43) rfl ?_); refine goesL_ (some 41) rfl rfl Tryd.func43 (by kernel_rfl) rfl #[.string a0, .int .i64 (wrap64 (4 * (wrap64 (x33_1 + 1)))), .int .i64 4] rfl (by (try simp only [List.map_toArray, List.map_cons, List.map_nil]); first | done | rfl | (simp only [List.length_drop, List.length_take]; rfl)) ?_; (with_reducible refine (impl_fetch.calls k1 a0 (wrap64 (4 * (wrap64 (x33_1 + 1)))) 4 t217 _ A7.out).mono ?_); rintro e w' ⟨rfl, ⟨nd, rfl⟩⟩; refine ⟨_, rfl, ?_⟩) | ((with_reducible refine gate_builtin (b := .append) (xs := #[.tmp 36, .tmp 42]) rfl ?_); at_builtin; refine Kd.R_append (Kd.int .i64) (w0 := w) w.heap.size rfl (.tmp 36) (.tmp 42) 55 3 (.int .i64 0) 8 rfl Tryd.underlying55 info3 rfl (by decide) (by omega) u6 x6_1 t217 [.int .i64 t217] (fun _ => True) (fun _ => False) rfl rfl ?aP (fun _ hk => hk.elim) ?aF ?aO ?aB ?aS ?aL ?_; (case aP => exact rfl); (case aB => exact (by repeat (first | (with_reducible first | exact HB.out | apply below_alloc | apply pw_below_drewN | apply below_drew1) | exact HB.out))); (case aF => exact (fun _ _ => trivial)); (case aO => exact (by (with_reducible repeat (first | apply Kd.R_alloc | apply Kd.R_drewN | apply Kd.R_drew)); exact HO_6.out)); (case aS => exact (below_size (by repeat (first | (with_reducible first | exact HB.out | apply below_alloc | apply pw_below_drewN | apply below_drew1) | exact HB.out)))); (case aL => have := LMc8.out; omega); intro v219 w11 ho hb hg hat; rw [← Ny218.out] at ho; have n0_ := Aside0.mk (hb); have n1_ := Aside0.mk (ho); clear HB; clear HO_6; have HB := n0_; have HO220 := n1_; clear n0_ n1_; clear ho hb hg hat; obtain ⟨Ao12, co12, eo12⟩ := Kd.R_slice HO220.out; subst eo12; have p221 : 0 ≤ (x33_1 : Int) := of_decide_eq_true (by first | (with_reducible assumption) | assumption); have q221 : x33_1 < (y218.length : Int) := of_decide_eq_true (by first | (with_reducible assumption) | assumption); obtain ⟨ad221, e221, hx221_0⟩ := Kd.at_int (Kd.R_reads' HO220.out).2.2 x33_1 p221 q221; cases e221; replace p221 := eq_true p221; replace q221 := eq_true q221))
                    go_roundg k1
                    case measure => have := HK1.out; omega
                    case rel => exact ⟨(y218), (wrap64 (x7_1 + (rd y218 x33_1))), (wrap64 (x33_1 + 1)), (by first | rfl | (simp; done) | (simp [*]; done)), (by first | rfl | (simp; done) | (simp [*]; done)), H', ⟨by have := HK1.out; omega⟩, ⟨by (with_reducible repeat (first | apply Kd.R_alloc | apply Kd.R_drewN | apply Kd.R_drew)); exact HO220.out⟩, ⟨by repeat (first | (with_reducible first | exact HB.out | apply below_alloc | apply pw_below_drewN | apply below_drew1) | exact HB.out)⟩⟩
                  · rw [if_neg c10] at H
                    exact absurd H (by simp)
                · rw [if_neg c9] at H
                  exact absurd H (by simp)
              · rw [if_neg c8] at H
                exact absurd H (by simp)
            · rw [if_neg c6] at H
              have c6b0 : decide (x33_1 < (wrap64 (t216 + 1))) = false := decide_eq_false c6
              clear c6
              have HC13 := Aside0.mk H
              clear H
              go_upto_region 17 with (fail)
              go_cut [62] (fun v62 wc => ∃ (kq : Nat) (x62_12 : Bool), v62 = .bool x62_12 ∧ Aside0 (impl_FrameGet.j1 kq a0 (wrap64 ((wrap64 (Int.tdiv (wrap64 ((wrap64 ((wrap64 (4 * (wrap64 ((wrap64 (t216 + 1)) + 1)))) + 8)) - 1)) 8)) * 8)) x6_1 x7_1 x62_12 = some (r1, r2)) ∧ Aside0 (kq ≤ k1) ∧ Aside0 (Kd.R (Kd.int .i64) 3 wc w.heap.size (fun _ => True) u6 x6_1) ∧ Aside0 (Below w.heap.size w wc))
              case first =>
                have H := HC13.out
                clear HC13
                by_cases c14 : x7_1 > 200
                · rw [if_pos c14] at H
                  have c14b0 : decide (200 < x7_1) = true := decide_eq_true c14
                  clear c14
                  (first | rw [c14b0] | (simp only [i64_w, i32_w]; rw [c14b0]) | skip)
                  have H' := Aside0.mk H
                  clear H
                  go_wp2
                  go_meet
                  case rel => exact ⟨_, (true), (by first | rfl | (simp; done) | (simp [*]; done)), H', ⟨by have := HK1.out; first | omega | exact Nat.le_refl _⟩, ⟨by (with_reducible repeat (first | apply Kd.R_alloc | apply Kd.R_drewN | apply Kd.R_drew)); exact HO_6.out⟩, ⟨by repeat (first | (with_reducible first | exact HB.out | apply below_alloc | apply pw_below_drewN | apply below_drew1) | exact HB.out)⟩⟩
                · rw [if_neg c14] at H
                  have c14b0 : decide (200 < x7_1) = false := decide_eq_false c14
                  clear c14
                  (first | rw [c14b0] | (simp only [i64_w, i32_w]; rw [c14b0]) | skip)
                  obtain ⟨ji15, hji15⟩ : ∃ j_ : Int, (wrap64 (4 * (wrap64 ((wrap64 (t216 + 1)) + 1)))) = j_ := ⟨_, rfl⟩
                  replace H : (if 0 ≤ (ji15) then (if (ji15) ≤ (wrap64 ((wrap64 (Int.tdiv (wrap64 ((wrap64 ((ji15) + 8)) - 1)) 8)) * 8)) then (if (wrap64 ((wrap64 (Int.tdiv (wrap64 ((wrap64 ((ji15) + 8)) - 1)) 8)) * 8)) ≤ (a0.size : Int) then ((strings_Trim.f (a0.extract ((ji15) : Int).toNat ((wrap64 ((wrap64 (Int.tdiv (wrap64 ((wrap64 ((ji15) + 8)) - 1)) 8)) * 8)) : Int).toNat) (⟨#[0]⟩ : ByteArray)).bind fun t222 => (impl_FrameGet.j1 k1 a0 (wrap64 ((wrap64 (Int.tdiv (wrap64 ((wrap64 ((ji15) + 8)) - 1)) 8)) * 8)) x6_1 x7_1 (t222.toList != ([] : List UInt8)))) else (none)) else (none)) else (none)) = some (r1, r2) := by first | (rw [hji15] at H; exact H) | (simp only [hji15] at H ⊢; exact H)
                  (try rw [hji15] at c5b0)
                  have hji15w : (IntKind.i64.wrap (4 * (wrap64 ((wrap64 (t216 + 1)) + 1)))) = ji15 := (i64_w _).trans hji15
                  by_cases c16 : 0 ≤ (ji15)
                  · rw [if_pos c16] at H
                    have c16b0 := eq_true c16
                    have c16b1 : decide (0 ≤ (ji15)) = true := decide_eq_true c16
                    clear c16
                    by_cases c17 : (ji15) ≤ (wrap64 ((wrap64 (Int.tdiv (wrap64 ((wrap64 ((ji15) + 8)) - 1)) 8)) * 8))
                    · rw [if_pos c17] at H
                      have c17b0 := eq_true c17
                      have c17b1 : decide ((ji15) ≤ (wrap64 ((wrap64 (Int.tdiv (wrap64 ((wrap64 ((ji15) + 8)) - 1)) 8)) * 8))) = true := decide_eq_true c17
                      by_cases c18 : (wrap64 ((wrap64 (Int.tdiv (wrap64 ((wrap64 ((ji15) + 8)) - 1)) 8)) * 8)) ≤ (a0.size : Int)
                      · rw [if_pos c18] at H
                        have c18b0 := eq_true c18
                        have c18b1 : decide ((wrap64 ((wrap64 (Int.tdiv (wrap64 ((wrap64 ((ji15) + 8)) - 1)) 8)) * 8)) ≤ (a0.size : Int)) = true := decide_eq_true c18
                        replace H := Option.bind_eq_some_iff.mp H
                        obtain ⟨t222, A190, H⟩ := H
                        replace H : (impl_FrameGet.j1 k1 a0 (wrap64 ((wrap64 (Int.tdiv (wrap64 ((wrap64 ((ji15) + 8)) - 1)) 8)) * 8)) x6_1 x7_1 (t222.toList != ([] : List UInt8))) = some (r1, r2) := H
                        have A19 := Aside0.mk A190
                        clear A190
                        have H' := Aside0.mk H
                        clear H
                        go_wp2_with (first | (go_at_call 44; (with_reducible refine (strings_Trim.calls (a0.extract ((ji15) : Int).toNat ((wrap64 ((wrap64 (Int.tdiv (wrap64 ((wrap64 ((ji15) + 8)) - 1)) 8)) * 8)) : Int).toNat) (⟨#[0]⟩ : ByteArray) t222 _ A19.out).mono ?_); rintro e w20 ⟨rfl, hb⟩; have n0_ := Aside0.mk (Kd.R_below (by (with_reducible repeat (first | apply Kd.R_alloc | apply Kd.R_drewN | apply Kd.R_drew)); exact HO_6.out) hb); have n1_ := Aside0.mk (below_step (by repeat (first | (with_reducible first | exact HB.out | apply below_alloc | apply pw_below_drewN | apply below_drew1) | exact HB.out)) hb); clear HO_6; clear HB; have HO_6 := n0_; have HB := n1_; clear n0_ n1_; (try clear hb); (try clear hb2); (try clear hk); (try clear hi)))
                        subst hji15
                        go_meet
                        case rel => exact ⟨_, ((t222.toList != ([] : List UInt8))), (by first | rfl | (generalize t222.toList = l_; cases l_ <;> rfl) | (simp; done) | (simp [*]; done)), H', ⟨by have := HK1.out; first | omega | exact Nat.le_refl _⟩, ⟨by (with_reducible repeat (first | apply Kd.R_alloc | apply Kd.R_drewN | apply Kd.R_drew)); exact HO_6.out⟩, ⟨by repeat (first | (with_reducible first | exact HB.out | apply below_alloc | apply pw_below_drewN | apply below_drew1) | exact HB.out)⟩⟩
                      · rw [if_neg c18] at H
                        exact absurd H (by simp)
                    · rw [if_neg c17] at H
                      exact absurd H (by simp)
                  · rw [if_neg c16] at H
                    exact absurd H (by simp)
              case rest =>
                clear HC13
                try clear c1
                try clear c2
                try clear c2b0
                try clear c2b1
                try clear p2
                try clear q2
                try clear hx2
                try clear c4
                try clear c4b0
                try clear c5
                try clear c5b0
                try clear c6
                try clear c6b0
                try clear p6
                try clear c8
                try clear c9
                try clear c9b0
                try clear c10
                try clear c10b0
                try clear c14
                try clear c14b0
                try clear c16
                try clear c16b0
                try clear c16b1
                try clear c17
                try clear c17b0
                try clear c17b1
                try clear c18
                try clear c18b0
                try clear c18b1
                try clear hx221_0
                try clear p2
                try clear p221
                try clear q221
                obtain ⟨kq, x62_12, rfl, HA, HJ12, HO_6, HB⟩ := hcut
                cases kq with
                | zero => exact absurd HA.out (by simp [impl_FrameGet.j1])
                | succ kj12 =>
                  have H := HA.out
                  clear HA
                  simp only [impl_FrameGet.j1] at H
                  by_cases c21 : x62_12 = true
                  · subst c21
                    have H1 : (some (([] : List ByteArray), (-1))) = some (r1, r2) := by rw [if_pos rfl] at H; exact H
                    clear H
                    have H := H1
                    clear H1
                    simp only [Option.some.injEq, Prod.mk.injEq] at H
                    obtain ⟨rfl, rfl⟩ := H
                    go_wp2
                    go_ret2
                    exact ⟨_, by first | rfl | (simp [errW_none, errW_some] <;> rfl) | (simp [*, errW_none, errW_some] <;> rfl), by first | exact Kd.R_nil _ _ _ _ _ | exact Kd.N_nil _ _ _ _ _ | exact Kd.V_nil _ _ _ _ _ | exact Kd.Q_nil _ _ _ _ _ | exact Kd.S_nil _ _ _ _ _, by repeat (first | (with_reducible first | exact HB.out | apply below_alloc | apply pw_below_drewN | apply below_drew1) | exact HB.out)⟩
                  · replace c21 := Bool.eq_false_iff.mpr c21
                    subst c21
                    have H1 : (if (a0.size : Int) < (wrap64 ((wrap64 ((wrap64 (Int.tdiv (wrap64 ((wrap64 ((wrap64 (4 * (wrap64 ((wrap64 (t216 + 1)) + 1)))) + 8)) - 1)) 8)) * 8)) + (wrap64 (8 * x7_1)))) then (some (([] : List ByteArray), 0)) else (impl_FrameGet.l1 kj12 a0 ([] : List ByteArray) (wrap64 ((wrap64 (Int.tdiv (wrap64 ((wrap64 ((wrap64 (4 * (wrap64 ((wrap64 (t216 + 1)) + 1)))) + 8)) - 1)) 8)) * 8)) x6_1 (x6_1.length : Int) 0)) = some (r1, r2) := by rw [if_neg (show ¬ (false = true) by decide)] at H; exact H
                    clear H
                    have H := H1
                    clear H1
                    by_cases c22 : (a0.size : Int) < (wrap64 ((wrap64 ((wrap64 (Int.tdiv (wrap64 ((wrap64 ((wrap64 (4 * (wrap64 ((wrap64 (t216 + 1)) + 1)))) + 8)) - 1)) 8)) * 8)) + (wrap64 (8 * x7_1))))
                    · rw [if_pos c22] at H
                      have c22b0 : decide ((a0.size : Int) < (wrap64 ((wrap64 ((wrap64 (Int.tdiv (wrap64 ((wrap64 ((wrap64 (4 * (wrap64 ((wrap64 (t216 + 1)) + 1)))) + 8)) - 1)) 8)) * 8)) + (wrap64 (8 * x7_1))))) = true := decide_eq_true c22
                      clear c22
                      simp only [Option.some.injEq, Prod.mk.injEq] at H
                      obtain ⟨rfl, rfl⟩ := H
                      go_wp2
                      go_ret2
                      exact ⟨_, by first | rfl | (simp [errW_none, errW_some] <;> rfl) | (simp [*, errW_none, errW_some] <;> rfl), by first | exact Kd.R_nil _ _ _ _ _ | exact Kd.N_nil _ _ _ _ _ | exact Kd.V_nil _ _ _ _ _ | exact Kd.Q_nil _ _ _ _ _ | exact Kd.S_nil _ _ _ _ _, by repeat (first | (with_reducible first | exact HB.out | apply below_alloc | apply pw_below_drewN | apply below_drew1) | exact HB.out)⟩
                    · rw [if_neg c22] at H
                      have c22b0 : decide ((a0.size : Int) < (wrap64 ((wrap64 ((wrap64 (Int.tdiv (wrap64 ((wrap64 ((wrap64 (4 * (wrap64 ((wrap64 (t216 + 1)) + 1)))) + 8)) - 1)) 8)) * 8)) + (wrap64 (8 * x7_1))))) = false := decide_eq_false c22
                      clear c22
                      have H' := Aside0.mk H
                      clear H
                      obtain ⟨Ao23, co23, eo23⟩ := Kd.R_slice HO_6.out
                      subst eo23
                      go_wp2
                      go_loopg [9, 10, 73] kj12 (fun kq v9 v10 v73 w' => ∃ (x9_3 : List ByteArray) (x10_3 : Int) (x73_3 : Int), v10 = .int .i64 x10_3 ∧ v73 = .int .i64 x73_3 ∧ Aside0 (impl_FrameGet.l1 kq a0 x9_3 x10_3 x6_1 (x6_1.length : Int) x73_3 = some (r1, r2)) ∧ Aside0 (kq ≤ kj12) ∧ Aside0 (Kd.R Kd.string 9 w' w.heap.size (fun _ => True) v9 x9_3) ∧ Aside0 (Kd.R (Kd.int .i64) 3 w' w.heap.size (fun _ => True) (.slice Ao23 x6_1.length co23) x6_1) ∧ Aside0 (Below w.heap.size w w'))
                      case atStart => exact ⟨(([] : List ByteArray)), ((wrap64 ((wrap64 (Int.tdiv (wrap64 ((wrap64 ((wrap64 (4 * (wrap64 ((wrap64 (t216 + 1)) + 1)))) + 8)) - 1)) 8)) * 8))), (0), (by first | rfl | (simp; done) | (simp [*]; done)), (by first | rfl | (simp; done) | (simp [*]; done)), H', ⟨Nat.le_refl _⟩, ⟨by first | exact Kd.R_nil _ _ _ _ _ | exact Kd.N_nil _ _ _ _ _ | exact Kd.V_nil _ _ _ _ _ | exact Kd.Q_nil _ _ _ _ _ | exact Kd.S_nil _ _ _ _ _⟩, ⟨by (with_reducible repeat (first | apply Kd.R_alloc | apply Kd.R_drewN | apply Kd.R_drew)); exact HO_6.out⟩, ⟨by repeat (first | (with_reducible first | exact HB.out | apply below_alloc | apply pw_below_drewN | apply below_drew1) | exact HB.out)⟩⟩
                      case round =>
                        clear H'
                        try clear c1
                        try clear c2
                        try clear c2b0
                        try clear c2b1
                        try clear p2
                        try clear q2
                        try clear hx2
                        try clear c4
                        try clear c4b0
                        try clear c5
                        try clear c5b0
                        try clear c6
                        try clear c6b0
                        try clear p6
                        try clear c8
                        try clear c9
                        try clear c9b0
                        try clear c10
                        try clear c10b0
                        try clear c14
                        try clear c14b0
                        try clear c16
                        try clear c16b0
                        try clear c16b1
                        try clear c17
                        try clear c17b0
                        try clear c17b1
                        try clear c18
                        try clear c18b0
                        try clear c18b1
                        try clear c21
                        try clear c22
                        try clear c22b0
                        try clear p22
                        try clear q22
                        try clear hx22
                        try clear hx221_0
                        try clear p2
                        try clear p221
                        try clear p6
                        try clear q2
                        try clear q221
                        obtain ⟨x9_3, x10_3, x73_3, rfl, rfl, HA, HK3, HO_9, HO_71, HB⟩ := hrel
                        cases gk with
                        | zero => exact absurd HA.out (by simp [impl_FrameGet.l1])
                        | succ k3 =>
                          have H := HA.out
                          clear HA
                          simp only [impl_FrameGet.l1] at H
                          by_cases c24 : x73_3 < (x6_1.length : Int)
                          · rw [if_pos c24] at H
                            have c24b0 : decide (x73_3 < (x6_1.length : Int)) = true := decide_eq_true c24
                            clear c24
                            by_cases c25 : 0 ≤ x73_3
                            · rw [if_pos c25] at H
                              have c25b0 : decide (0 ≤ x73_3) = true := decide_eq_true c25
                              clear c25
                              by_cases c26 : x73_3 < (x6_1.length : Int)
                              · rw [if_pos c26] at H
                                have c26b0 : decide (x73_3 < (x6_1.length : Int)) = true := decide_eq_true c26
                                clear c26
                                by_cases c27 : 0 ≤ x10_3
                                · rw [if_pos c27] at H
                                  have c27b0 := eq_true c27
                                  have c27b1 : decide (0 ≤ x10_3) = true := decide_eq_true c27
                                  clear c27
                                  by_cases c28 : x10_3 ≤ (wrap64 (x10_3 + (wrap64 (8 * (rd x6_1 x73_3)))))
                                  · rw [if_pos c28] at H
                                    have c28b0 := eq_true c28
                                    have c28b1 : decide (x10_3 ≤ (wrap64 (x10_3 + (wrap64 (8 * (rd x6_1 x73_3)))))) = true := decide_eq_true c28
                                    by_cases c29 : (wrap64 (x10_3 + (wrap64 (8 * (rd x6_1 x73_3))))) ≤ (a0.size : Int)
                                    · rw [if_pos c29] at H
                                      have c29b0 := eq_true c29
                                      have c29b1 : decide ((wrap64 (x10_3 + (wrap64 (8 * (rd x6_1 x73_3))))) ≤ (a0.size : Int)) = true := decide_eq_true c29
                                      by_cases c30 : x9_3.length < 8796093022208
                                      · rw [if_pos c30] at H
                                        have LMc30 := Aside0.mk c30
                                        clear c30
                                        obtain ⟨y224, hy224⟩ : ∃ y_ : List ByteArray, y_ = (x9_3 ++ [a0.extract (x10_3 : Int).toNat ((wrap64 (x10_3 + (wrap64 (8 * (rd x6_1 x73_3))))) : Int).toNat]) := ⟨_, rfl⟩
                                        replace H : (impl_FrameGet.l1 k3 a0 y224 (wrap64 (x10_3 + (wrap64 (8 * (rd x6_1 x73_3))))) x6_1 (x6_1.length : Int) (wrap64 (x73_3 + 1))) = some (r1, r2) := by first | (rw [hy224]; with_reducible exact H) | (have H2_ := (Option.bind_some _ _).symm.trans H; rw [hy224]; with_reducible exact H2_) | (have H2_ := (Option.bind_some _ _).symm.trans H; with_reducible exact H2_) | with_reducible exact H | (rw [hy224]; exact H) | exact H
                                        have Ny224 := Aside0.mk hy224
                                        clear hy224
                                        have H' := Aside0.mk H
                                        clear H
                                        have p223 : 0 ≤ (x73_3 : Int) := of_decide_eq_true (by first | (with_reducible assumption) | assumption)
                                        have q223 : x73_3 < (x6_1.length : Int) := of_decide_eq_true (by first | (with_reducible assumption) | assumption)
                                        obtain ⟨ad223, e223, hx223_0⟩ := Kd.at_int (Kd.R_reads' HO_71.out).2.2 x73_3 p223 q223
                                        cases e223
                                        replace p223 := eq_true p223
                                        replace q223 := eq_true q223
                                        go_wp2_with (first | ((with_reducible refine gate_builtin (b := .append) (xs := #[.tmp 77, .tmp 85]) rfl ?_); at_builtin; refine Kd.R_append Kd.string (w0 := w) w.heap.size rfl (.tmp 77) (.tmp 85) 25 9 (.string ⟨#[]⟩) 16 rfl Tryd.underlying25 info9 rfl (by decide) (by omega) u9 x9_3 (a0.extract (x10_3 : Int).toNat ((wrap64 (x10_3 + (wrap64 (8 * (rd x6_1 x73_3))))) : Int).toNat) [.string (a0.extract (x10_3 : Int).toNat ((wrap64 (x10_3 + (wrap64 (8 * (rd x6_1 x73_3))))) : Int).toNat)] (fun _ => True) (fun _ => False) rfl rfl ?aP (fun _ hk => hk.elim) ?aF ?aO ?aB ?aS ?aL ?_; (case aP => exact rfl); (case aB => exact (by repeat (first | (with_reducible first | exact HB.out | apply below_alloc | apply pw_below_drewN | apply below_drew1) | exact HB.out))); (case aF => exact (fun _ _ => trivial)); (case aO => exact (by (with_reducible repeat (first | apply Kd.R_alloc | apply Kd.R_drewN | apply Kd.R_drew)); exact HO_9.out)); (case aS => exact (below_size (by repeat (first | (with_reducible first | exact HB.out | apply below_alloc | apply pw_below_drewN | apply below_drew1) | exact HB.out)))); (case aL => have := LMc30.out; omega); intro v225 w31 ho hb hg hat; rw [← Ny224.out] at ho; have n0_ := Aside0.mk (Kd.R_over' (by (with_reducible repeat (first | apply Kd.R_alloc | apply Kd.R_drewN | apply Kd.R_drew)); exact HO_71.out) (Kd.R_typed (by (with_reducible repeat (first | apply Kd.R_alloc | apply Kd.R_drewN | apply Kd.R_drew)); exact HO_9.out)) (by decide) hg); have n1_ := Aside0.mk (hb); have n2_ := Aside0.mk (ho); clear HO_71; clear HB; clear HO_9; have HO_71 := n0_; have HB := n1_; have HO226 := n2_; clear n0_ n1_ n2_; clear ho hb hg hat))
                                        go_roundg k3
                                        case measure => have := HK1.out; have := HJ12.out; have := HK3.out; omega
                                        case rel => exact ⟨(y224), (wrap64 (x10_3 + (wrap64 (8 * (rd x6_1 x73_3))))), (wrap64 (x73_3 + 1)), (by first | rfl | (simp; done) | (simp [*]; done)), (by first | rfl | (simp; done) | (simp [*]; done)), H', ⟨by have := HK1.out; have := HJ12.out; have := HK3.out; omega⟩, ⟨by (with_reducible repeat (first | apply Kd.R_alloc | apply Kd.R_drewN | apply Kd.R_drew)); exact HO226.out⟩, ⟨by (with_reducible repeat (first | apply Kd.R_alloc | apply Kd.R_drewN | apply Kd.R_drew)); exact HO_71.out⟩, ⟨by repeat (first | (with_reducible first | exact HB.out | apply below_alloc | apply pw_below_drewN | apply below_drew1) | exact HB.out)⟩⟩
                                      · rw [if_neg c30] at H
                                        exact absurd H (by simp)
                                    · rw [if_neg c29] at H
                                      exact absurd H (by simp)
                                  · rw [if_neg c28] at H
                                    exact absurd H (by simp)
                                · rw [if_neg c27] at H
                                  exact absurd H (by simp)
                              · rw [if_neg c26] at H
                                exact absurd H (by simp)
                            · rw [if_neg c25] at H
                              exact absurd H (by simp)
                          · rw [if_neg c24] at H
                            have c24b0 : decide (x73_3 < (x6_1.length : Int)) = false := decide_eq_false c24
                            clear c24
                            simp only [Option.some.injEq, Prod.mk.injEq] at H
                            obtain ⟨rfl, rfl⟩ := H
                            go_wp2
                            go_ret2
                            exact ⟨_, by first | rfl | (simp [errW_none, errW_some] <;> rfl) | (simp [*, errW_none, errW_some] <;> rfl), by (with_reducible repeat (first | apply Kd.R_alloc | apply Kd.R_drewN | apply Kd.R_drew)); exact HO_9.out, by repeat (first | (with_reducible first | exact HB.out | apply below_alloc | apply pw_below_drewN | apply below_drew1) | exact HB.out)⟩

end Go.Proofs.YteocobbddngllaaDoor.P
