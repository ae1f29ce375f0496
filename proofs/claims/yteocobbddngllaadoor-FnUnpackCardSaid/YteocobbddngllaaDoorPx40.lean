-- PRINTED by print.py (a twelfth state) out of the translation. Not trusted: Lean checks it.
import Derived.Test.YteocobbddngllaaDoorPx0
import Derived.Test.YteocobbddngllaaDoorPx9
import Derived.Test.YteocobbddngllaaDoorPx39
namespace Go.Proofs.YteocobbddngllaaDoor.P
open Go.RowKit Go.Proofs.YteocobbddngllaaDoorW.PrintWords Go.Proofs.YteocobbddngllaaDoorW.PrintLast Go.Proofs.YteocobbddngllaaDoorW.PrintMore
attribute [local go_sem] max2_int min2_int max_two min_two max_three min_three max_four min_four   -- for this text's walks alone
set_option linter.unusedVariables false
set_option linter.unusedSimpArgs false

/-! ### spec_Unpack: function 26 -/
mutual
def spec_Unpack.l0 : Nat → ByteArray → ByteArray → Int → Option (ByteArray × Bool)
  | 0, _, _, _ => none
  | k + 1, x0, x4, x5 => if x5 < (x0.size : Int) then (if 0 ≤ x5 then (if 0 ≤ (wrap64 (x5 + 1)) then (if (wrap64 (x5 + 1)) ≤ (x0.size : Int) then ((spec_l3Word.f k (x0.extract ((wrap64 (x5 + 1)) : Int).toNat x0.size) (wrap64 (bt x0 x5))).bind fun bt424 => (if bt424.2.2 = true then (if x4.size + bt424.1.size ≤ 9223372036854775807 then (if (wrap64 (bt x0 x5)) = 0 then (spec_Unpack.j1 k x0 (x4 ++ bt424.1) (wrap64 ((wrap64 (x5 + 1)) + bt424.2.1)) (wrap64 (bt x0 x5)) true) else (spec_Unpack.j1 k x0 (x4 ++ bt424.1) (wrap64 ((wrap64 (x5 + 1)) + bt424.2.1)) (wrap64 (bt x0 x5)) ((wrap64 (bt x0 x5)) == 255))) else (none)) else (some ((⟨#[]⟩ : ByteArray), false)))) else (none)) else (none)) else (none)) else (some (x4, true))
def spec_Unpack.j1 : Nat → ByteArray → ByteArray → Int → Int → Bool → Option (ByteArray × Bool)
  | 0, _, _, _, _, _ => none
  | k + 1, x0, x4, x5, x6, x43 => if x43 = true then (if x5 ≥ (x0.size : Int) then (some ((⟨#[]⟩ : ByteArray), false)) else (if 0 ≤ x5 then (if x5 < (x0.size : Int) then (if x6 = 0 then ((spec_l1Many.f k (⟨#[0]⟩ : ByteArray) (wrap64 (8 * (wrap64 (bt x0 x5))))).bind fun t427 => (if x4.size + t427.size ≤ 9223372036854775807 then (if ((x4 ++ t427).size : Int) > 1600 then (some ((⟨#[]⟩ : ByteArray), false)) else (spec_Unpack.l0 k x0 (x4 ++ t427) (wrap64 (x5 + 1)))) else (none))) else (if (wrap64 ((wrap64 (x5 + 1)) + (wrap64 (8 * (wrap64 (bt x0 x5)))))) > (x0.size : Int) then (some ((⟨#[]⟩ : ByteArray), false)) else (if 0 ≤ (wrap64 (x5 + 1)) then (if (wrap64 (x5 + 1)) ≤ (wrap64 ((wrap64 (x5 + 1)) + (wrap64 (8 * (wrap64 (bt x0 x5)))))) then (if (wrap64 ((wrap64 (x5 + 1)) + (wrap64 (8 * (wrap64 (bt x0 x5)))))) ≤ (x0.size : Int) then (if x4.size + (x0.extract ((wrap64 (x5 + 1)) : Int).toNat ((wrap64 ((wrap64 (x5 + 1)) + (wrap64 (8 * (wrap64 (bt x0 x5)))))) : Int).toNat).size ≤ 9223372036854775807 then (if ((x4 ++ (x0.extract ((wrap64 (x5 + 1)) : Int).toNat ((wrap64 ((wrap64 (x5 + 1)) + (wrap64 (8 * (wrap64 (bt x0 x5)))))) : Int).toNat)).size : Int) > 1600 then (some ((⟨#[]⟩ : ByteArray), false)) else (spec_Unpack.l0 k x0 (x4 ++ (x0.extract ((wrap64 (x5 + 1)) : Int).toNat ((wrap64 ((wrap64 (x5 + 1)) + (wrap64 (8 * (wrap64 (bt x0 x5)))))) : Int).toNat)) (wrap64 ((wrap64 (x5 + 1)) + (wrap64 (8 * (wrap64 (bt x0 x5)))))))) else (none)) else (none)) else (none)) else (none)))) else (none)) else (none))) else (if (x4.size : Int) > 1600 then (some ((⟨#[]⟩ : ByteArray), false)) else (spec_Unpack.l0 k x0 x4 x5))
end
def spec_Unpack.f (k : Nat) (a0 : ByteArray) : Option (ByteArray × Bool) := spec_Unpack.l0 k a0 (⟨#[]⟩ : ByteArray) 0
theorem spec_Unpack.mono_l : ∀ k, (∀ y0 y1 y2, LeO (spec_Unpack.l0 k y0 y1 y2) (spec_Unpack.l0 (k + 1) y0 y1 y2)) ∧ (∀ y0 y1 y2 y3 y4, LeO (spec_Unpack.j1 k y0 y1 y2 y3 y4) (spec_Unpack.j1 (k + 1) y0 y1 y2 y3 y4))
  | 0 => ⟨fun _ _ _ r h => by simp [spec_Unpack.l0] at h, fun _ _ _ _ _ r h => by simp [spec_Unpack.j1] at h⟩
  | k + 1 => by
    obtain ⟨ih0, ih1⟩ := spec_Unpack.mono_l k
    refine ⟨?_, ?_⟩
    · intro y0 y1 y2
      unfold spec_Unpack.l0
      repeat' first
      | (with_reducible exact ih0 _ _ _)
      | (with_reducible exact ih1 _ _ _ _ _)
      | (with_reducible exact spec_l1Many.mono _ _ _)
      | (with_reducible exact spec_l3Word.mono _ _ _)
      | (with_reducible exact LeO.refl _)
      | (with_reducible exact LeO.none _)
      | (with_reducible refine LeO.ite ?_ ?_)
      | (with_reducible refine LeO.bind ?_ (fun _ => ?_))
      | exact ih0 _ _ _
      | exact ih1 _ _ _ _ _
      | exact spec_l1Many.mono _ _ _
      | exact spec_l3Word.mono _ _ _
      | exact LeO.none _
      | refine LeO.ite ?_ ?_
      | refine LeO.bind ?_ (fun _ => ?_)
    · intro y0 y1 y2 y3 y4
      unfold spec_Unpack.j1
      repeat' first
      | (with_reducible exact ih0 _ _ _)
      | (with_reducible exact ih1 _ _ _ _ _)
      | (with_reducible exact spec_l1Many.mono _ _ _)
      | (with_reducible exact spec_l3Word.mono _ _ _)
      | (with_reducible exact LeO.refl _)
      | (with_reducible exact LeO.none _)
      | (with_reducible refine LeO.ite ?_ ?_)
      | (with_reducible refine LeO.bind ?_ (fun _ => ?_))
      | exact ih0 _ _ _
      | exact ih1 _ _ _ _ _
      | exact spec_l1Many.mono _ _ _
      | exact spec_l3Word.mono _ _ _
      | exact LeO.none _
      | refine LeO.ite ?_ ?_
      | refine LeO.bind ?_ (fun _ => ?_)
theorem spec_Unpack.mono : ∀ a0 k, LeO (spec_Unpack.f k a0) (spec_Unpack.f (k + 1) a0) := by
  intro a0 k
  obtain ⟨ih0, ih1⟩ := spec_Unpack.mono_l k
  unfold spec_Unpack.f
  repeat' first
      | (with_reducible exact ih0 _ _ _)
      | (with_reducible exact ih1 _ _ _ _ _)
      | (with_reducible exact spec_l1Many.mono _ _ _)
      | (with_reducible exact spec_l3Word.mono _ _ _)
      | (with_reducible exact LeO.refl _)
      | (with_reducible exact LeO.none _)
      | (with_reducible refine LeO.ite ?_ ?_)
      | (with_reducible refine LeO.bind ?_ (fun _ => ?_))
      | exact ih0 _ _ _
      | exact ih1 _ _ _ _ _
      | exact spec_l1Many.mono _ _ _
      | exact spec_l3Word.mono _ _ _
      | exact LeO.none _
      | refine LeO.ite ?_ ?_
      | refine LeO.bind ?_ (fun _ => ?_)
set_option maxHeartbeats 8000000 in
set_option maxRecDepth 100000 in
theorem spec_Unpack.calls (k : Nat) (a0 : ByteArray) (r1 : ByteArray) (r2 : Bool) (w : World) (h : spec_Unpack.f k a0 = some (r1, r2)) :
    Calls Tryd.prog 26 #[.string a0] w fun e w' => e = .returned (.tuple #[.string r1, .bool r2]) ∧ Below w.heap.size w w' := by
  have HB := Aside0.mk (Below.refl w.heap.size w)
  have H : (spec_Unpack.l0 k a0 (⟨#[]⟩ : ByteArray) 0) = some (r1, r2) := h
  clear h
  have H' := Aside0.mk H
  clear H
  go_enter Tryd.func26, Tryd.ntmps26
  go_wp2
  go_loopg [4, 5] k (fun kq v4 v5 w' => ∃ (x4_1 : ByteArray) (x5_1 : Int), v4 = .string x4_1 ∧ v5 = .int .i64 x5_1 ∧ Aside0 (spec_Unpack.l0 kq a0 x4_1 x5_1 = some (r1, r2)) ∧ Aside0 (kq ≤ k) ∧ Aside0 (Below w.heap.size w w'))
  case atStart => exact ⟨((⟨#[]⟩ : ByteArray)), (0), (by first | rfl | (simp; done) | (simp [*]; done)), (by first | rfl | (simp; done) | (simp [*]; done)), H', ⟨Nat.le_refl _⟩, ⟨by repeat (first | (with_reducible first | exact HB.out | apply below_alloc | apply pw_below_drewN | apply below_drew1) | exact HB.out)⟩⟩
  case round =>
    clear H'
    obtain ⟨x4_1, x5_1, rfl, rfl, HA, HK1, HB⟩ := hrel
    cases gk with
    | zero => exact absurd HA.out (by simp [spec_Unpack.l0])
    | succ k1 =>
      have H := HA.out
      clear HA
      simp only [spec_Unpack.l0] at H
      by_cases c2 : x5_1 < (a0.size : Int)
      · rw [if_pos c2] at H
        have c2b0 : decide (x5_1 < (a0.size : Int)) = true := decide_eq_true c2
        clear c2
        by_cases c3 : 0 ≤ x5_1
        · rw [if_pos c3] at H
          have c3b0 : decide (0 ≤ x5_1) = true := decide_eq_true c3
          clear c3
          obtain ⟨ji5, hji5⟩ : ∃ j_ : Int, (wrap64 (x5_1 + 1)) = j_ := ⟨_, rfl⟩
          replace H : (if 0 ≤ (ji5) then (if (ji5) ≤ (a0.size : Int) then ((spec_l3Word.f k1 (a0.extract ((ji5) : Int).toNat a0.size) (wrap64 (bt a0 x5_1))).bind fun bt424 => (if bt424.2.2 = true then (if x4_1.size + bt424.1.size ≤ 9223372036854775807 then (if (wrap64 (bt a0 x5_1)) = 0 then (spec_Unpack.j1 k1 a0 (x4_1 ++ bt424.1) (wrap64 ((ji5) + bt424.2.1)) (wrap64 (bt a0 x5_1)) true) else (spec_Unpack.j1 k1 a0 (x4_1 ++ bt424.1) (wrap64 ((ji5) + bt424.2.1)) (wrap64 (bt a0 x5_1)) ((wrap64 (bt a0 x5_1)) == 255))) else (none)) else (some ((⟨#[]⟩ : ByteArray), false)))) else (none)) else (none)) = some (r1, r2) := by first | (rw [hji5] at H; exact H) | (simp only [hji5] at H ⊢; exact H)
          have hji5w : (IntKind.i64.wrap (x5_1 + 1)) = ji5 := (i64_w _).trans hji5
          by_cases c6 : 0 ≤ (ji5)
          · rw [if_pos c6] at H
            have c6b0 := eq_true c6
            have c6b1 : decide (0 ≤ (ji5)) = true := decide_eq_true c6
            clear c6
            by_cases c7 : (ji5) ≤ (a0.size : Int)
            · rw [if_pos c7] at H
              have c7b0 := eq_true c7
              have c7b1 : decide ((ji5) ≤ (a0.size : Int)) = true := decide_eq_true c7
              clear c7
              replace H := Option.bind_eq_some_iff.mp H
              obtain ⟨⟨t424, t425, t426⟩, A80, H⟩ := H
              replace H : (if t426 = true then (if x4_1.size + t424.size ≤ 9223372036854775807 then (if (wrap64 (bt a0 x5_1)) = 0 then (spec_Unpack.j1 k1 a0 (x4_1 ++ t424) (wrap64 ((ji5) + t425)) (wrap64 (bt a0 x5_1)) true) else (spec_Unpack.j1 k1 a0 (x4_1 ++ t424) (wrap64 ((ji5) + t425)) (wrap64 (bt a0 x5_1)) ((wrap64 (bt a0 x5_1)) == 255))) else (none)) else (some ((⟨#[]⟩ : ByteArray), false))) = some (r1, r2) := H
              have A8 := Aside0.mk A80
              clear A80
              by_cases c9 : t426 = true
              · subst c9
                have H1 : (if x4_1.size + t424.size ≤ 9223372036854775807 then (if (wrap64 (bt a0 x5_1)) = 0 then (spec_Unpack.j1 k1 a0 (x4_1 ++ t424) (wrap64 ((ji5) + t425)) (wrap64 (bt a0 x5_1)) true) else (spec_Unpack.j1 k1 a0 (x4_1 ++ t424) (wrap64 ((ji5) + t425)) (wrap64 (bt a0 x5_1)) ((wrap64 (bt a0 x5_1)) == 255))) else (none)) = some (r1, r2) := by rw [if_pos rfl] at H; exact H
                clear H
                have H := H1
                clear H1
                by_cases c10 : x4_1.size + t424.size ≤ 9223372036854775807
                · rw [if_pos c10] at H
                  have c10b0 := eq_true c10
                  have c10b1 : decide (x4_1.size + t424.size ≤ 9223372036854775807) = true := decide_eq_true c10
                  try have c10b2 : (9223372036854775807 < x4_1.size + t424.size) = False := eq_false (Nat.not_lt.2 c10)
                  have HC11 := Aside0.mk H
                  clear H
                  have p4 : 0 ≤ (x5_1 : Int) := of_decide_eq_true (by first | (with_reducible assumption) | assumption)
                  have q4 : x5_1 < (a0.size : Int) := of_decide_eq_true (by first | (with_reducible assumption) | assumption)
                  have hx4 := bt_at a0 x5_1
                  replace p4 := eq_true p4
                  replace q4 := eq_true q4
                  go_upto_region 10 with (first | ((with_reducible refine gate_callee (f := 58) rfl ?_); refine goesL_ (some 25) rfl rfl Tryd.func58 (by kernel_rfl) rfl #[.string (a0.extract ((ji5) : Int).toNat a0.size), .int .i64 (wrap64 (bt a0 x5_1))] rfl (by (try simp only [List.map_toArray, List.map_cons, List.map_nil]); first | done | (simp only [hji5]; rfl) | rfl | (simp only [List.length_drop, List.length_take]; rfl)) ?_; (with_reducible refine (spec_l3Word.calls k1 (a0.extract ((ji5) : Int).toNat a0.size) (wrap64 (bt a0 x5_1)) t424 t425 true _ A8.out).mono ?_); rintro e w12 ⟨rfl, hb⟩; refine ⟨_, rfl, ?_⟩; have n0_ := Aside0.mk (below_step (by repeat (first | (with_reducible first | exact HB.out | apply below_alloc | apply pw_below_drewN | apply below_drew1) | exact HB.out)) hb); clear HB; have HB := n0_; clear n0_; (try clear hb); (try clear hb2); (try clear hk); (try clear hi)))
                  (try simp only [Act.put, List.setIfInBounds_toArray, List.set_cons_zero, List.set_cons_succ])
                  go_cut [43] (fun v43 wc => ∃ (kq : Nat) (x43_10 : Bool), v43 = .bool x43_10 ∧ Aside0 (spec_Unpack.j1 kq a0 (x4_1 ++ t424) (wrap64 ((ji5) + t425)) (wrap64 (bt a0 x5_1)) x43_10 = some (r1, r2)) ∧ Aside0 (kq ≤ k1) ∧ Aside0 (Below w.heap.size w wc))
                  case first =>
                    have H := HC11.out
                    clear HC11
                    by_cases c13 : (wrap64 (bt a0 x5_1)) = 0
                    · rw [if_pos c13] at H
                      have c13b0 : ((wrap64 (bt a0 x5_1)) == 0) = true := beq_iff_eq.mpr c13
                      have c13b1 : ((wrap64 (bt a0 x5_1)) != 0) = false := bne_eq_false_iff_eq.mpr c13
                      clear c13
                      (first | rw [c13b0] | (simp only [i64_w, i32_w]; rw [c13b0]) | skip)
                      have H' := Aside0.mk H
                      clear H
                      go_wp2
                      go_meet
                      case rel => exact ⟨_, (true), (by first | rfl | (simp; done) | (simp [*]; done)), H', ⟨by have := HK1.out; first | omega | exact Nat.le_refl _⟩, ⟨by repeat (first | (with_reducible first | exact HB.out | apply below_alloc | apply pw_below_drewN | apply below_drew1) | exact HB.out)⟩⟩
                    · rw [if_neg c13] at H
                      have c13b0 : ((wrap64 (bt a0 x5_1)) == 0) = false := beq_eq_false_iff_ne.mpr c13
                      have c13b1 : ((wrap64 (bt a0 x5_1)) != 0) = true := bne_iff_ne.mpr c13
                      (first | rw [c13b0] | (simp only [i64_w, i32_w]; rw [c13b0]) | skip)
                      have H' := Aside0.mk H
                      clear H
                      go_wp2
                      go_meet
                      case rel => exact ⟨_, (((wrap64 (bt a0 x5_1)) == 255)), (by first | rfl | (simp; done) | (simp [*]; done)), H', ⟨by have := HK1.out; first | omega | exact Nat.le_refl _⟩, ⟨by repeat (first | (with_reducible first | exact HB.out | apply below_alloc | apply pw_below_drewN | apply below_drew1) | exact HB.out)⟩⟩
                  case rest =>
                    clear HC11
                    try clear c1
                    try clear c2
                    try clear c2b0
                    try clear p2
                    try clear c3
                    try clear c3b0
                    try clear p4
                    try clear q4
                    try clear hx4
                    try clear c5
                    try clear c6
                    try clear c6b0
                    try clear c6b1
                    try clear p6
                    try clear c7
                    try clear c7b0
                    try clear c7b1
                    try clear c9
                    try clear c10
                    try clear c10b0
                    try clear c10b1
                    try clear c10b2
                    try clear c13
                    try clear c13b0
                    try clear c13b1
                    try clear p4
                    try clear q4
                    obtain ⟨kq, x43_10, rfl, HA, HJ10, HB⟩ := hcut
                    cases kq with
                    | zero => exact absurd HA.out (by simp [spec_Unpack.j1])
                    | succ kj10 =>
                      have H := HA.out
                      clear HA
                      simp only [spec_Unpack.j1] at H
                      by_cases c14 : x43_10 = true
                      · subst c14
                        have H1 : (if (wrap64 ((ji5) + t425)) ≥ (a0.size : Int) then (some ((⟨#[]⟩ : ByteArray), false)) else (if 0 ≤ (wrap64 ((ji5) + t425)) then (if (wrap64 ((ji5) + t425)) < (a0.size : Int) then (if (wrap64 (bt a0 x5_1)) = 0 then ((spec_l1Many.f kj10 (⟨#[0]⟩ : ByteArray) (wrap64 (8 * (wrap64 (bt a0 (wrap64 ((ji5) + t425))))))).bind fun t427 => (if (x4_1 ++ t424).size + t427.size ≤ 9223372036854775807 then (if (((x4_1 ++ t424) ++ t427).size : Int) > 1600 then (some ((⟨#[]⟩ : ByteArray), false)) else (spec_Unpack.l0 kj10 a0 ((x4_1 ++ t424) ++ t427) (wrap64 ((wrap64 ((ji5) + t425)) + 1)))) else (none))) else (if (wrap64 ((wrap64 ((wrap64 ((ji5) + t425)) + 1)) + (wrap64 (8 * (wrap64 (bt a0 (wrap64 ((ji5) + t425)))))))) > (a0.size : Int) then (some ((⟨#[]⟩ : ByteArray), false)) else (if 0 ≤ (wrap64 ((wrap64 ((ji5) + t425)) + 1)) then (if (wrap64 ((wrap64 ((ji5) + t425)) + 1)) ≤ (wrap64 ((wrap64 ((wrap64 ((ji5) + t425)) + 1)) + (wrap64 (8 * (wrap64 (bt a0 (wrap64 ((ji5) + t425)))))))) then (if (wrap64 ((wrap64 ((wrap64 ((ji5) + t425)) + 1)) + (wrap64 (8 * (wrap64 (bt a0 (wrap64 ((ji5) + t425)))))))) ≤ (a0.size : Int) then (if (x4_1 ++ t424).size + (a0.extract ((wrap64 ((wrap64 ((ji5) + t425)) + 1)) : Int).toNat ((wrap64 ((wrap64 ((wrap64 ((ji5) + t425)) + 1)) + (wrap64 (8 * (wrap64 (bt a0 (wrap64 ((ji5) + t425)))))))) : Int).toNat).size ≤ 9223372036854775807 then (if (((x4_1 ++ t424) ++ (a0.extract ((wrap64 ((wrap64 ((ji5) + t425)) + 1)) : Int).toNat ((wrap64 ((wrap64 ((wrap64 ((ji5) + t425)) + 1)) + (wrap64 (8 * (wrap64 (bt a0 (wrap64 ((ji5) + t425)))))))) : Int).toNat)).size : Int) > 1600 then (some ((⟨#[]⟩ : ByteArray), false)) else (spec_Unpack.l0 kj10 a0 ((x4_1 ++ t424) ++ (a0.extract ((wrap64 ((wrap64 ((ji5) + t425)) + 1)) : Int).toNat ((wrap64 ((wrap64 ((wrap64 ((ji5) + t425)) + 1)) + (wrap64 (8 * (wrap64 (bt a0 (wrap64 ((ji5) + t425)))))))) : Int).toNat)) (wrap64 ((wrap64 ((wrap64 ((ji5) + t425)) + 1)) + (wrap64 (8 * (wrap64 (bt a0 (wrap64 ((ji5) + t425)))))))))) else (none)) else (none)) else (none)) else (none)))) else (none)) else (none))) = some (r1, r2) := by rw [if_pos rfl] at H; exact H
                        clear H
                        have H := H1
                        clear H1
                        by_cases c15 : (wrap64 ((ji5) + t425)) ≥ (a0.size : Int)
                        · rw [if_pos c15] at H
                          have c15b0 : decide ((a0.size : Int) ≤ (wrap64 ((ji5) + t425))) = true := decide_eq_true c15
                          clear c15
                          simp only [Option.some.injEq, Prod.mk.injEq] at H
                          obtain ⟨rfl, rfl⟩ := H
                          go_wp2
                          go_ret2
                          exact ⟨by first | rfl | (simp [errW_none, errW_some] <;> rfl) | (simp only [← hji5]; first | rfl | (simp [errW_none, errW_some] <;> rfl)) | (simp [*, errW_none, errW_some] <;> rfl) | (simp only [Bool.and_eq_true, beq_iff_eq, Bool.not_eq_true', Bool.not_eq_eq_eq_not, Bool.not_true, Bool.not_false] at *; simp [*]), by repeat (first | (with_reducible first | exact HB.out | apply below_alloc | apply pw_below_drewN | apply below_drew1) | exact HB.out)⟩
                        · rw [if_neg c15] at H
                          have c15b0 : decide ((a0.size : Int) ≤ (wrap64 ((ji5) + t425))) = false := decide_eq_false c15
                          clear c15
                          obtain ⟨ji16, hji16⟩ : ∃ j_ : Int, (wrap64 ((ji5) + t425)) = j_ := ⟨_, rfl⟩
                          replace H : (if 0 ≤ (ji16) then (if (ji16) < (a0.size : Int) then (if (wrap64 (bt a0 x5_1)) = 0 then ((spec_l1Many.f kj10 (⟨#[0]⟩ : ByteArray) (wrap64 (8 * (wrap64 (bt a0 (ji16)))))).bind fun t427 => (if (x4_1 ++ t424).size + t427.size ≤ 9223372036854775807 then (if (((x4_1 ++ t424) ++ t427).size : Int) > 1600 then (some ((⟨#[]⟩ : ByteArray), false)) else (spec_Unpack.l0 kj10 a0 ((x4_1 ++ t424) ++ t427) (wrap64 ((ji16) + 1)))) else (none))) else (if (wrap64 ((wrap64 ((ji16) + 1)) + (wrap64 (8 * (wrap64 (bt a0 (ji16))))))) > (a0.size : Int) then (some ((⟨#[]⟩ : ByteArray), false)) else (if 0 ≤ (wrap64 ((ji16) + 1)) then (if (wrap64 ((ji16) + 1)) ≤ (wrap64 ((wrap64 ((ji16) + 1)) + (wrap64 (8 * (wrap64 (bt a0 (ji16))))))) then (if (wrap64 ((wrap64 ((ji16) + 1)) + (wrap64 (8 * (wrap64 (bt a0 (ji16))))))) ≤ (a0.size : Int) then (if (x4_1 ++ t424).size + (a0.extract ((wrap64 ((ji16) + 1)) : Int).toNat ((wrap64 ((wrap64 ((ji16) + 1)) + (wrap64 (8 * (wrap64 (bt a0 (ji16))))))) : Int).toNat).size ≤ 9223372036854775807 then (if (((x4_1 ++ t424) ++ (a0.extract ((wrap64 ((ji16) + 1)) : Int).toNat ((wrap64 ((wrap64 ((ji16) + 1)) + (wrap64 (8 * (wrap64 (bt a0 (ji16))))))) : Int).toNat)).size : Int) > 1600 then (some ((⟨#[]⟩ : ByteArray), false)) else (spec_Unpack.l0 kj10 a0 ((x4_1 ++ t424) ++ (a0.extract ((wrap64 ((ji16) + 1)) : Int).toNat ((wrap64 ((wrap64 ((ji16) + 1)) + (wrap64 (8 * (wrap64 (bt a0 (ji16))))))) : Int).toNat)) (wrap64 ((wrap64 ((ji16) + 1)) + (wrap64 (8 * (wrap64 (bt a0 (ji16))))))))) else (none)) else (none)) else (none)) else (none)))) else (none)) else (none)) = some (r1, r2) := by first | (rw [hji16] at H; exact H) | (simp only [hji16] at H ⊢; exact H)
                          (try rw [hji16] at c15b0)
                          have hji16w : (IntKind.i64.wrap ((ji5) + t425)) = ji16 := (i64_w _).trans hji16
                          by_cases c17 : 0 ≤ (ji16)
                          · rw [if_pos c17] at H
                            have c17b0 : decide (0 ≤ (ji16)) = true := decide_eq_true c17
                            clear c17
                            by_cases c18 : (ji16) < (a0.size : Int)
                            · rw [if_pos c18] at H
                              have c18b0 : decide ((ji16) < (a0.size : Int)) = true := decide_eq_true c18
                              clear c18
                              by_cases c20 : (wrap64 (bt a0 x5_1)) = 0
                              · rw [if_pos c20] at H
                                have c20b0 : ((wrap64 (bt a0 x5_1)) == 0) = true := beq_iff_eq.mpr c20
                                have c20b1 : ((wrap64 (bt a0 x5_1)) != 0) = false := bne_eq_false_iff_eq.mpr c20
                                clear c20
                                replace H := Option.bind_eq_some_iff.mp H
                                obtain ⟨t427, A210, H⟩ := H
                                replace H : (if (x4_1 ++ t424).size + t427.size ≤ 9223372036854775807 then (if (((x4_1 ++ t424) ++ t427).size : Int) > 1600 then (some ((⟨#[]⟩ : ByteArray), false)) else (spec_Unpack.l0 kj10 a0 ((x4_1 ++ t424) ++ t427) (wrap64 ((ji16) + 1)))) else (none)) = some (r1, r2) := H
                                have A21 := Aside0.mk A210
                                clear A210
                                by_cases c22 : (x4_1 ++ t424).size + t427.size ≤ 9223372036854775807
                                · rw [if_pos c22] at H
                                  have c22b0 := eq_true c22
                                  have c22b1 : decide ((x4_1 ++ t424).size + t427.size ≤ 9223372036854775807) = true := decide_eq_true c22
                                  try have c22b2 : (9223372036854775807 < (x4_1 ++ t424).size + t427.size) = False := eq_false (Nat.not_lt.2 c22)
                                  try have c22b3 : (9223372036854775807 < x4_1.size + t424.size + t427.size) = False := eq_false (by have q_ := c22; simp only [ByteArray.size_extract, ByteArray.size_append] at q_; (try simp only [decide_eq_true_eq, eq_iff_iff, iff_true] at *); omega)
                                  by_cases c23 : (((x4_1 ++ t424) ++ t427).size : Int) > 1600
                                  · rw [if_pos c23] at H
                                    have c23b0 : decide (1600 < (((x4_1 ++ t424) ++ t427).size : Int)) = true := decide_eq_true c23
                                    (try have c23b4 : decide (1600 < ((x4_1.size + t424.size + t427.size : Nat) : Int)) = true := by have q_ := c23b0; simp only [ByteArray.size_append, ByteArray.size_extract] at q_; first | exact q_ | (rw [← q_]; apply decide_eq_decide.2; simp only [decide_eq_true_eq, decide_eq_false_iff_not, eq_iff_iff, iff_true] at *; omega))
                                    (try have c23b5 : decide (1600 < ((x4_1.size : Nat) : Int) + ((t424.size : Nat) : Int) + ((t427.size : Nat) : Int)) = true := by have q_ := c23b4; simp only [Int.natCast_add] at q_; exact q_)
                                    have c23b1 : decide (1600 < ((x4_1 ++ t424) ++ t427).size) = true := decide_eq_true (by omega)
                                    clear c23
                                    simp only [Option.some.injEq, Prod.mk.injEq] at H
                                    obtain ⟨rfl, rfl⟩ := H
                                    have p19 : 0 ≤ ((ji16) : Int) := of_decide_eq_true (by first | (with_reducible assumption) | assumption)
                                    have q19 : (ji16) < (a0.size : Int) := of_decide_eq_true (by first | (with_reducible assumption) | assumption)
                                    have hx19 := bt_at a0 (ji16)
                                    replace p19 := eq_true p19
                                    replace q19 := eq_true q19
                                    go_wp2_with (first | ((with_reducible refine gate_callee (f := 53) rfl ?_); refine goesL_ (some 59) rfl rfl Tryd.func53 (by kernel_rfl) rfl #[.string (⟨#[0]⟩ : ByteArray), .int .i64 (wrap64 (8 * (wrap64 (bt a0 (ji16)))))] rfl (by (try simp only [List.map_toArray, List.map_cons, List.map_nil]); first | done | (simp only [hji16]; rfl) | rfl | (simp only [List.length_drop, List.length_take]; rfl)) ?_; (with_reducible refine (spec_l1Many.calls kj10 (⟨#[0]⟩ : ByteArray) (wrap64 (8 * (wrap64 (bt a0 (ji16))))) t427 _ A21.out).mono ?_); rintro e w' ⟨rfl, ⟨nd, rfl⟩⟩; refine ⟨_, rfl, ?_⟩))
                                    go_ret2
                                    exact ⟨by first | rfl | (simp [errW_none, errW_some] <;> rfl) | (simp only [← hji5, ← hji16]; first | rfl | (simp [errW_none, errW_some] <;> rfl)) | (simp [*, errW_none, errW_some] <;> rfl) | (simp only [Bool.and_eq_true, beq_iff_eq, Bool.not_eq_true', Bool.not_eq_eq_eq_not, Bool.not_true, Bool.not_false] at *; simp [*]), by repeat (first | (with_reducible first | exact HB.out | apply below_alloc | apply pw_below_drewN | apply below_drew1) | exact HB.out)⟩
                                  · rw [if_neg c23] at H
                                    have c23b0 : decide (1600 < (((x4_1 ++ t424) ++ t427).size : Int)) = false := decide_eq_false c23
                                    (try have c23b4 : decide (1600 < ((x4_1.size + t424.size + t427.size : Nat) : Int)) = false := by have q_ := c23b0; simp only [ByteArray.size_append, ByteArray.size_extract] at q_; first | exact q_ | (rw [← q_]; apply decide_eq_decide.2; simp only [decide_eq_true_eq, decide_eq_false_iff_not, eq_iff_iff, iff_true] at *; omega))
                                    (try have c23b5 : decide (1600 < ((x4_1.size : Nat) : Int) + ((t424.size : Nat) : Int) + ((t427.size : Nat) : Int)) = false := by have q_ := c23b4; simp only [Int.natCast_add] at q_; exact q_)
                                    have c23b1 : decide (1600 < ((x4_1 ++ t424) ++ t427).size) = false := decide_eq_false (by omega)
                                    clear c23
                                    have H' := Aside0.mk H
                                    clear H
                                    have p19 : 0 ≤ ((ji16) : Int) := of_decide_eq_true (by first | (with_reducible assumption) | assumption)
                                    have q19 : (ji16) < (a0.size : Int) := of_decide_eq_true (by first | (with_reducible assumption) | assumption)
                                    have hx19 := bt_at a0 (ji16)
                                    replace p19 := eq_true p19
                                    replace q19 := eq_true q19
                                    go_wp2_with (first | ((with_reducible refine gate_callee (f := 53) rfl ?_); refine goesL_ (some 59) rfl rfl Tryd.func53 (by kernel_rfl) rfl #[.string (⟨#[0]⟩ : ByteArray), .int .i64 (wrap64 (8 * (wrap64 (bt a0 (ji16)))))] rfl (by (try simp only [List.map_toArray, List.map_cons, List.map_nil]); first | done | (simp only [hji16]; rfl) | rfl | (simp only [List.length_drop, List.length_take]; rfl)) ?_; (with_reducible refine (spec_l1Many.calls kj10 (⟨#[0]⟩ : ByteArray) (wrap64 (8 * (wrap64 (bt a0 (ji16))))) t427 _ A21.out).mono ?_); rintro e w' ⟨rfl, ⟨nd, rfl⟩⟩; refine ⟨_, rfl, ?_⟩))
                                    go_roundg kj10
                                    case measure => have := HK1.out; have := HJ10.out; omega
                                    case rel => exact ⟨((x4_1 ++ t424) ++ t427), (wrap64 ((ji16) + 1)), (by first | rfl | (simp; done) | (simp [*]; done)), (by first | rfl | (simp; done) | (simp only [← hji16] <;> (first | rfl | simp)) | (simp [*]; done)), H', ⟨by have := HK1.out; have := HJ10.out; omega⟩, ⟨by repeat (first | (with_reducible first | exact HB.out | apply below_alloc | apply pw_below_drewN | apply below_drew1) | exact HB.out)⟩⟩
                                · rw [if_neg c22] at H
                                  exact absurd H (by simp)
                              · rw [if_neg c20] at H
                                have c20b0 : ((wrap64 (bt a0 x5_1)) == 0) = false := beq_eq_false_iff_ne.mpr c20
                                have c20b1 : ((wrap64 (bt a0 x5_1)) != 0) = true := bne_iff_ne.mpr c20
                                by_cases c24 : (wrap64 ((wrap64 ((ji16) + 1)) + (wrap64 (8 * (wrap64 (bt a0 (ji16))))))) > (a0.size : Int)
                                · rw [if_pos c24] at H
                                  have c24b0 : decide ((a0.size : Int) < (wrap64 ((wrap64 ((ji16) + 1)) + (wrap64 (8 * (wrap64 (bt a0 (ji16)))))))) = true := decide_eq_true c24
                                  clear c24
                                  simp only [Option.some.injEq, Prod.mk.injEq] at H
                                  obtain ⟨rfl, rfl⟩ := H
                                  have p19 : 0 ≤ ((ji16) : Int) := of_decide_eq_true (by first | (with_reducible assumption) | assumption)
                                  have q19 : (ji16) < (a0.size : Int) := of_decide_eq_true (by first | (with_reducible assumption) | assumption)
                                  have hx19 := bt_at a0 (ji16)
                                  replace p19 := eq_true p19
                                  replace q19 := eq_true q19
                                  go_wp2
                                  go_ret2
                                  exact ⟨by first | rfl | (simp [errW_none, errW_some] <;> rfl) | (simp only [← hji5, ← hji16]; first | rfl | (simp [errW_none, errW_some] <;> rfl)) | (simp [*, errW_none, errW_some] <;> rfl) | (simp only [Bool.and_eq_true, beq_iff_eq, Bool.not_eq_true', Bool.not_eq_eq_eq_not, Bool.not_true, Bool.not_false] at *; simp [*]), by repeat (first | (with_reducible first | exact HB.out | apply below_alloc | apply pw_below_drewN | apply below_drew1) | exact HB.out)⟩
                                · rw [if_neg c24] at H
                                  have c24b0 : decide ((a0.size : Int) < (wrap64 ((wrap64 ((ji16) + 1)) + (wrap64 (8 * (wrap64 (bt a0 (ji16)))))))) = false := decide_eq_false c24
                                  clear c24
                                  obtain ⟨ji25, hji25⟩ : ∃ j_ : Int, (wrap64 ((ji16) + 1)) = j_ := ⟨_, rfl⟩
                                  replace H : (if 0 ≤ (ji25) then (if (ji25) ≤ (wrap64 ((ji25) + (wrap64 (8 * (wrap64 (bt a0 (ji16))))))) then (if (wrap64 ((ji25) + (wrap64 (8 * (wrap64 (bt a0 (ji16))))))) ≤ (a0.size : Int) then (if (x4_1 ++ t424).size + (a0.extract ((ji25) : Int).toNat ((wrap64 ((ji25) + (wrap64 (8 * (wrap64 (bt a0 (ji16))))))) : Int).toNat).size ≤ 9223372036854775807 then (if (((x4_1 ++ t424) ++ (a0.extract ((ji25) : Int).toNat ((wrap64 ((ji25) + (wrap64 (8 * (wrap64 (bt a0 (ji16))))))) : Int).toNat)).size : Int) > 1600 then (some ((⟨#[]⟩ : ByteArray), false)) else (spec_Unpack.l0 kj10 a0 ((x4_1 ++ t424) ++ (a0.extract ((ji25) : Int).toNat ((wrap64 ((ji25) + (wrap64 (8 * (wrap64 (bt a0 (ji16))))))) : Int).toNat)) (wrap64 ((ji25) + (wrap64 (8 * (wrap64 (bt a0 (ji16))))))))) else (none)) else (none)) else (none)) else (none)) = some (r1, r2) := by first | (rw [hji25] at H; exact H) | (simp only [hji25] at H ⊢; exact H)
                                  (try rw [hji25] at c24b0)
                                  have hji25w : (IntKind.i64.wrap ((ji16) + 1)) = ji25 := (i64_w _).trans hji25
                                  by_cases c26 : 0 ≤ (ji25)
                                  · rw [if_pos c26] at H
                                    have c26b0 := eq_true c26
                                    have c26b1 : decide (0 ≤ (ji25)) = true := decide_eq_true c26
                                    clear c26
                                    by_cases c27 : (ji25) ≤ (wrap64 ((ji25) + (wrap64 (8 * (wrap64 (bt a0 (ji16)))))))
                                    · rw [if_pos c27] at H
                                      have c27b0 := eq_true c27
                                      have c27b1 : decide ((ji25) ≤ (wrap64 ((ji25) + (wrap64 (8 * (wrap64 (bt a0 (ji16)))))))) = true := decide_eq_true c27
                                      by_cases c28 : (wrap64 ((ji25) + (wrap64 (8 * (wrap64 (bt a0 (ji16))))))) ≤ (a0.size : Int)
                                      · rw [if_pos c28] at H
                                        have c28b0 := eq_true c28
                                        have c28b1 : decide ((wrap64 ((ji25) + (wrap64 (8 * (wrap64 (bt a0 (ji16))))))) ≤ (a0.size : Int)) = true := decide_eq_true c28
                                        by_cases c29 : (x4_1 ++ t424).size + (a0.extract ((ji25) : Int).toNat ((wrap64 ((ji25) + (wrap64 (8 * (wrap64 (bt a0 (ji16))))))) : Int).toNat).size ≤ 9223372036854775807
                                        · rw [if_pos c29] at H
                                          have c29b0 := eq_true c29
                                          have c29b1 : decide ((x4_1 ++ t424).size + (a0.extract ((ji25) : Int).toNat ((wrap64 ((ji25) + (wrap64 (8 * (wrap64 (bt a0 (ji16))))))) : Int).toNat).size ≤ 9223372036854775807) = true := decide_eq_true c29
                                          try have c29b2 : (9223372036854775807 < (x4_1 ++ t424).size + (a0.extract ((ji25) : Int).toNat ((wrap64 ((ji25) + (wrap64 (8 * (wrap64 (bt a0 (ji16))))))) : Int).toNat).size) = False := eq_false (Nat.not_lt.2 c29)
                                          try have c29b3 : (9223372036854775807 < x4_1.size + t424.size + (((wrap64 ((ji25) + (wrap64 (8 * (wrap64 (bt a0 (ji16))))))) : Int).toNat - ((ji25) : Int).toNat)) = False := eq_false (by have q_ := c29; simp only [ByteArray.size_extract, ByteArray.size_append] at q_; (try simp only [decide_eq_true_eq, eq_iff_iff, iff_true] at *); omega)
                                          by_cases c30 : (((x4_1 ++ t424) ++ (a0.extract ((ji25) : Int).toNat ((wrap64 ((ji25) + (wrap64 (8 * (wrap64 (bt a0 (ji16))))))) : Int).toNat)).size : Int) > 1600
                                          · rw [if_pos c30] at H
                                            have c30b0 : decide (1600 < (((x4_1 ++ t424) ++ (a0.extract ((ji25) : Int).toNat ((wrap64 ((ji25) + (wrap64 (8 * (wrap64 (bt a0 (ji16))))))) : Int).toNat)).size : Int)) = true := decide_eq_true c30
                                            (try have c30b4 : decide (1600 < ((x4_1.size + t424.size + (((wrap64 ((ji25) + (wrap64 (8 * (wrap64 (bt a0 (ji16))))))) : Int).toNat - ((ji25) : Int).toNat) : Nat) : Int)) = true := by have q_ := c30b0; simp only [ByteArray.size_append, ByteArray.size_extract] at q_; first | exact q_ | (rw [← q_]; apply decide_eq_decide.2; simp only [decide_eq_true_eq, decide_eq_false_iff_not, eq_iff_iff, iff_true] at *; omega))
                                            (try have c30b5 : decide (1600 < ((x4_1.size : Nat) : Int) + ((t424.size : Nat) : Int) + (((((wrap64 ((ji25) + (wrap64 (8 * (wrap64 (bt a0 (ji16))))))) : Int).toNat - ((ji25) : Int).toNat) : Nat) : Int)) = true := by have q_ := c30b4; simp only [Int.natCast_add] at q_; exact q_)
                                            have c30b1 : decide (1600 < ((x4_1 ++ t424) ++ (a0.extract ((ji25) : Int).toNat ((wrap64 ((ji25) + (wrap64 (8 * (wrap64 (bt a0 (ji16))))))) : Int).toNat)).size) = true := decide_eq_true (by omega)
                                            clear c30
                                            simp only [Option.some.injEq, Prod.mk.injEq] at H
                                            obtain ⟨rfl, rfl⟩ := H
                                            have p19 : 0 ≤ ((ji16) : Int) := of_decide_eq_true (by first | (with_reducible assumption) | assumption)
                                            have q19 : (ji16) < (a0.size : Int) := of_decide_eq_true (by first | (with_reducible assumption) | assumption)
                                            have hx19 := bt_at a0 (ji16)
                                            replace p19 := eq_true p19
                                            replace q19 := eq_true q19
                                            go_wp2
                                            go_ret2
                                            exact ⟨by first | rfl | (simp [errW_none, errW_some] <;> rfl) | (simp only [← hji5, ← hji16, ← hji25]; first | rfl | (simp [errW_none, errW_some] <;> rfl)) | (simp [*, errW_none, errW_some] <;> rfl) | (simp only [Bool.and_eq_true, beq_iff_eq, Bool.not_eq_true', Bool.not_eq_eq_eq_not, Bool.not_true, Bool.not_false] at *; simp [*]), by repeat (first | (with_reducible first | exact HB.out | apply below_alloc | apply pw_below_drewN | apply below_drew1) | exact HB.out)⟩
                                          · rw [if_neg c30] at H
                                            have c30b0 : decide (1600 < (((x4_1 ++ t424) ++ (a0.extract ((ji25) : Int).toNat ((wrap64 ((ji25) + (wrap64 (8 * (wrap64 (bt a0 (ji16))))))) : Int).toNat)).size : Int)) = false := decide_eq_false c30
                                            (try have c30b4 : decide (1600 < ((x4_1.size + t424.size + (((wrap64 ((ji25) + (wrap64 (8 * (wrap64 (bt a0 (ji16))))))) : Int).toNat - ((ji25) : Int).toNat) : Nat) : Int)) = false := by have q_ := c30b0; simp only [ByteArray.size_append, ByteArray.size_extract] at q_; first | exact q_ | (rw [← q_]; apply decide_eq_decide.2; simp only [decide_eq_true_eq, decide_eq_false_iff_not, eq_iff_iff, iff_true] at *; omega))
                                            (try have c30b5 : decide (1600 < ((x4_1.size : Nat) : Int) + ((t424.size : Nat) : Int) + (((((wrap64 ((ji25) + (wrap64 (8 * (wrap64 (bt a0 (ji16))))))) : Int).toNat - ((ji25) : Int).toNat) : Nat) : Int)) = false := by have q_ := c30b4; simp only [Int.natCast_add] at q_; exact q_)
                                            have c30b1 : decide (1600 < ((x4_1 ++ t424) ++ (a0.extract ((ji25) : Int).toNat ((wrap64 ((ji25) + (wrap64 (8 * (wrap64 (bt a0 (ji16))))))) : Int).toNat)).size) = false := decide_eq_false (by omega)
                                            clear c30
                                            have H' := Aside0.mk H
                                            clear H
                                            have p19 : 0 ≤ ((ji16) : Int) := of_decide_eq_true (by first | (with_reducible assumption) | assumption)
                                            have q19 : (ji16) < (a0.size : Int) := of_decide_eq_true (by first | (with_reducible assumption) | assumption)
                                            have hx19 := bt_at a0 (ji16)
                                            replace p19 := eq_true p19
                                            replace q19 := eq_true q19
                                            go_wp2
                                            go_roundg kj10
                                            case measure => have := HK1.out; have := HJ10.out; omega
                                            case rel => exact ⟨((x4_1 ++ t424) ++ (a0.extract ((ji25) : Int).toNat ((wrap64 ((ji25) + (wrap64 (8 * (wrap64 (bt a0 (ji16))))))) : Int).toNat)), (wrap64 ((ji25) + (wrap64 (8 * (wrap64 (bt a0 (ji16))))))), (by first | rfl | (simp; done) | (simp only [← hji16, ← hji25] <;> (first | rfl | simp)) | (simp [*]; done)), (by first | rfl | (simp; done) | (simp only [← hji16, ← hji25] <;> (first | rfl | simp)) | (simp [*]; done)), H', ⟨by have := HK1.out; have := HJ10.out; omega⟩, ⟨by repeat (first | (with_reducible first | exact HB.out | apply below_alloc | apply pw_below_drewN | apply below_drew1) | exact HB.out)⟩⟩
                                        · rw [if_neg c29] at H
                                          exact absurd H (by simp)
                                      · rw [if_neg c28] at H
                                        exact absurd H (by simp)
                                    · rw [if_neg c27] at H
                                      exact absurd H (by simp)
                                  · rw [if_neg c26] at H
                                    exact absurd H (by simp)
                            · rw [if_neg c18] at H
                              exact absurd H (by simp)
                          · rw [if_neg c17] at H
                            exact absurd H (by simp)
                      · replace c14 := Bool.eq_false_iff.mpr c14
                        subst c14
                        have H1 : (if ((x4_1 ++ t424).size : Int) > 1600 then (some ((⟨#[]⟩ : ByteArray), false)) else (spec_Unpack.l0 kj10 a0 (x4_1 ++ t424) (wrap64 ((ji5) + t425)))) = some (r1, r2) := by rw [if_neg (show ¬ (false = true) by decide)] at H; exact H
                        clear H
                        have H := H1
                        clear H1
                        by_cases c31 : ((x4_1 ++ t424).size : Int) > 1600
                        · rw [if_pos c31] at H
                          have c31b0 : decide (1600 < ((x4_1 ++ t424).size : Int)) = true := decide_eq_true c31
                          (try have c31b4 : decide (1600 < ((x4_1.size + t424.size : Nat) : Int)) = true := by have q_ := c31b0; simp only [ByteArray.size_append, ByteArray.size_extract] at q_; first | exact q_ | (rw [← q_]; apply decide_eq_decide.2; simp only [decide_eq_true_eq, decide_eq_false_iff_not, eq_iff_iff, iff_true] at *; omega))
                          (try have c31b5 : decide (1600 < ((x4_1.size : Nat) : Int) + ((t424.size : Nat) : Int)) = true := by have q_ := c31b4; simp only [Int.natCast_add] at q_; exact q_)
                          have c31b1 : decide (1600 < (x4_1 ++ t424).size) = true := decide_eq_true (by omega)
                          clear c31
                          simp only [Option.some.injEq, Prod.mk.injEq] at H
                          obtain ⟨rfl, rfl⟩ := H
                          go_wp2
                          go_ret2
                          exact ⟨by first | rfl | (simp [errW_none, errW_some] <;> rfl) | (simp only [← hji5]; first | rfl | (simp [errW_none, errW_some] <;> rfl)) | (simp [*, errW_none, errW_some] <;> rfl) | (simp only [Bool.and_eq_true, beq_iff_eq, Bool.not_eq_true', Bool.not_eq_eq_eq_not, Bool.not_true, Bool.not_false] at *; simp [*]), by repeat (first | (with_reducible first | exact HB.out | apply below_alloc | apply pw_below_drewN | apply below_drew1) | exact HB.out)⟩
                        · rw [if_neg c31] at H
                          have c31b0 : decide (1600 < ((x4_1 ++ t424).size : Int)) = false := decide_eq_false c31
                          (try have c31b4 : decide (1600 < ((x4_1.size + t424.size : Nat) : Int)) = false := by have q_ := c31b0; simp only [ByteArray.size_append, ByteArray.size_extract] at q_; first | exact q_ | (rw [← q_]; apply decide_eq_decide.2; simp only [decide_eq_true_eq, decide_eq_false_iff_not, eq_iff_iff, iff_true] at *; omega))
                          (try have c31b5 : decide (1600 < ((x4_1.size : Nat) : Int) + ((t424.size : Nat) : Int)) = false := by have q_ := c31b4; simp only [Int.natCast_add] at q_; exact q_)
                          have c31b1 : decide (1600 < (x4_1 ++ t424).size) = false := decide_eq_false (by omega)
                          clear c31
                          have H' := Aside0.mk H
                          clear H
                          go_wp2
                          go_roundg kj10
                          case measure => have := HK1.out; have := HJ10.out; omega
                          case rel => exact ⟨((x4_1 ++ t424)), ((wrap64 ((ji5) + t425))), (by first | rfl | (simp; done) | (simp [*]; done)), (by first | rfl | (simp; done) | (simp only [← hji5] <;> (first | rfl | simp)) | (simp [*]; done)), H', ⟨by have := HK1.out; have := HJ10.out; omega⟩, ⟨by repeat (first | (with_reducible first | exact HB.out | apply below_alloc | apply pw_below_drewN | apply below_drew1) | exact HB.out)⟩⟩
                · rw [if_neg c10] at H
                  exact absurd H (by simp)
              · replace c9 := Bool.eq_false_iff.mpr c9
                subst c9
                have H1 : (some ((⟨#[]⟩ : ByteArray), false)) = some (r1, r2) := by rw [if_neg (show ¬ (false = true) by decide)] at H; exact H
                clear H
                have H := H1
                clear H1
                simp only [Option.some.injEq, Prod.mk.injEq] at H
                obtain ⟨rfl, rfl⟩ := H
                have p4 : 0 ≤ (x5_1 : Int) := of_decide_eq_true (by first | (with_reducible assumption) | assumption)
                have q4 : x5_1 < (a0.size : Int) := of_decide_eq_true (by first | (with_reducible assumption) | assumption)
                have hx4 := bt_at a0 x5_1
                replace p4 := eq_true p4
                replace q4 := eq_true q4
                go_wp2_with (first | ((with_reducible refine gate_callee (f := 58) rfl ?_); refine goesL_ (some 25) rfl rfl Tryd.func58 (by kernel_rfl) rfl #[.string (a0.extract ((ji5) : Int).toNat a0.size), .int .i64 (wrap64 (bt a0 x5_1))] rfl (by (try simp only [List.map_toArray, List.map_cons, List.map_nil]); first | done | (simp only [hji5]; rfl) | rfl | (simp only [List.length_drop, List.length_take]; rfl)) ?_; (with_reducible refine (spec_l3Word.calls k1 (a0.extract ((ji5) : Int).toNat a0.size) (wrap64 (bt a0 x5_1)) t424 t425 false _ A8.out).mono ?_); rintro e w32 ⟨rfl, hb⟩; refine ⟨_, rfl, ?_⟩; have n0_ := Aside0.mk (below_step (by repeat (first | (with_reducible first | exact HB.out | apply below_alloc | apply pw_below_drewN | apply below_drew1) | exact HB.out)) hb); clear HB; have HB := n0_; clear n0_; (try clear hb); (try clear hb2); (try clear hk); (try clear hi)))
                go_ret2
                exact ⟨by first | rfl | (simp [errW_none, errW_some] <;> rfl) | (simp only [← hji5]; first | rfl | (simp [errW_none, errW_some] <;> rfl)) | (simp [*, errW_none, errW_some] <;> rfl) | (simp only [Bool.and_eq_true, beq_iff_eq, Bool.not_eq_true', Bool.not_eq_eq_eq_not, Bool.not_true, Bool.not_false] at *; simp [*]), by repeat (first | (with_reducible first | exact HB.out | apply below_alloc | apply pw_below_drewN | apply below_drew1) | exact HB.out)⟩
            · rw [if_neg c7] at H
              exact absurd H (by simp)
          · rw [if_neg c6] at H
            exact absurd H (by simp)
        · rw [if_neg c3] at H
          exact absurd H (by simp)
      · rw [if_neg c2] at H
        have c2b0 : decide (x5_1 < (a0.size : Int)) = false := decide_eq_false c2
        clear c2
        simp only [Option.some.injEq, Prod.mk.injEq] at H
        obtain ⟨rfl, rfl⟩ := H
        go_wp2
        go_ret2
        exact ⟨by first | rfl | (simp [errW_none, errW_some] <;> rfl) | (simp [*, errW_none, errW_some] <;> rfl) | (simp only [Bool.and_eq_true, beq_iff_eq, Bool.not_eq_true', Bool.not_eq_eq_eq_not, Bool.not_true, Bool.not_false] at *; simp [*]), by repeat (first | (with_reducible first | exact HB.out | apply below_alloc | apply pw_below_drewN | apply below_drew1) | exact HB.out)⟩

end Go.Proofs.YteocobbddngllaaDoor.P
