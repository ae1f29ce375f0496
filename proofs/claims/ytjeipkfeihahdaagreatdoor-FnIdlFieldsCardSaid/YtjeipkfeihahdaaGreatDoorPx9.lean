-- PRINTED by print.py (a twelfth state) out of the translation. Not trusted: Lean checks it.
import Derived.Test.YtjeipkfeihahdaaGreatDoorPx0
import Derived.Test.YtjeipkfeihahdaaGreatDoorPx8
namespace Go.Proofs.YtjeipkfeihahdaaGreatDoor.P
open Go.RowKit Go.Proofs.YtjeipkfeihahdaaGreatDoorW.PrintWords Go.Proofs.YtjeipkfeihahdaaGreatDoorW.PrintLast Go.Proofs.YtjeipkfeihahdaaGreatDoorW.PrintMore
attribute [local go_sem] max2_int min2_int max_two min_two max_three min_three max_four min_four   -- for this text's walks alone
set_option linter.unusedVariables false
set_option linter.unusedSimpArgs false

/-! ### spec_l9Name: function 52 -/
def spec_l9Name.l0 : Nat → ByteArray → Int → Option (Bool)
 | 0, _, _ => none
 | k + 1, x0, x3 => if x3 < (x0.size : Int) then (if 0 ≤ x3 then (if (bt x0 x3) ≥ 97 then (if (bt x0 x3) ≤ 122 then (spec_l9Name.l0 k x0 (wrap64 (x3 + 1))) else (if (bt x0 x3) ≥ 65 then (if ((bt x0 x3) ≤ 90) then (spec_l9Name.l0 k x0 (wrap64 (x3 + 1))) else (if x3 = 0 then (some false) else (if (bt x0 x3) < 48 then (some false) else (if (bt x0 x3) > 57 then (some false) else (spec_l9Name.l0 k x0 (wrap64 (x3 + 1))))))) else (if x3 = 0 then (some false) else (if (bt x0 x3) < 48 then (some false) else (if (bt x0 x3) > 57 then (some false) else (spec_l9Name.l0 k x0 (wrap64 (x3 + 1)))))))) else (if (bt x0 x3) ≥ 65 then (if ((bt x0 x3) ≤ 90) then (spec_l9Name.l0 k x0 (wrap64 (x3 + 1))) else (if x3 = 0 then (some false) else (if (bt x0 x3) < 48 then (some false) else (if (bt x0 x3) > 57 then (some false) else (spec_l9Name.l0 k x0 (wrap64 (x3 + 1))))))) else (if x3 = 0 then (some false) else (if (bt x0 x3) < 48 then (some false) else (if (bt x0 x3) > 57 then (some false) else (spec_l9Name.l0 k x0 (wrap64 (x3 + 1)))))))) else (none)) else ((spec_l1In.f (x0.size : Int) 1 10).bind fun t166 => (some t166))
def spec_l9Name.f (k : Nat) (a0 : ByteArray) : Option (Bool) := spec_l9Name.l0 k a0 0
set_option maxHeartbeats 8000000 in
set_option maxRecDepth 100000 in
theorem spec_l9Name.calls (k : Nat) (a0 : ByteArray) (r : Bool) (w : World) (h : spec_l9Name.f k a0 = some r) :
  Calls Tryz.prog 52 #[.string a0] w fun e w' => e = .returned (.bool r) ∧ Drawn0 w w' := by
 have H : (spec_l9Name.l0 k a0 0) = some r := h
 clear h
 have H' := Aside0.mk H
 clear H
 go_enter Tryz.func52, Tryz.ntmps52
 go_wp2
 go_loopg [3] k (fun kq v3 w' => ∃ (x3_1 : Int), v3 = .int .i64 x3_1 ∧ Aside0 (spec_l9Name.l0 kq a0 x3_1 = some r) ∧ Aside0 (kq ≤ k) ∧ Drawn0 w w')
 case atStart => exact ⟨(0), (by first | rfl | (simp; done) | (simp [*]; done)), H', ⟨Nat.le_refl _⟩, by repeat (first | exact Drawn0.refl _ | apply Drawn0.step)⟩
 case round =>
  clear H'
  obtain ⟨x3_1, rfl, HA, HK1, ⟨m1, rfl⟩⟩ := hrel
  cases gk with
  | zero => exact absurd HA.out (by simp [spec_l9Name.l0])
  | succ k1 =>
   have H := HA.out
   clear HA
   simp only [spec_l9Name.l0] at H
   by_cases c2 : x3_1 < (a0.size : Int)
   ·rw [if_pos c2] at H
    have c2b0 : decide (x3_1 < (a0.size : Int)) = true := decide_eq_true c2
    clear c2
    by_cases c3 : 0 ≤ x3_1
    ·rw [if_pos c3] at H
     have c3b0 : decide (0 ≤ x3_1) = true := decide_eq_true c3
     clear c3
     by_cases c5 : (bt a0 x3_1) ≥ 97
     ·rw [if_pos c5] at H
      have c5b0 : decide (97 ≤ (bt a0 x3_1)) = true := decide_eq_true c5
      clear c5
      by_cases c7 : (bt a0 x3_1) ≤ 122
      ·rw [if_pos c7] at H
       have c7b0 : decide ((bt a0 x3_1) ≤ 122) = true := decide_eq_true c7
       clear c7
       have H' := Aside0.mk H
       clear H
       have p4 : 0 ≤ (x3_1 : Int) := of_decide_eq_true (by assumption)
       have q4 : x3_1 < (a0.size : Int) := of_decide_eq_true (by assumption)
       have hx4 := bt_at a0 x3_1
       replace p4 := eq_true p4
       replace q4 := eq_true q4
       have p6 : 0 ≤ (x3_1 : Int) := of_decide_eq_true (by assumption)
       have q6 : x3_1 < (a0.size : Int) := of_decide_eq_true (by assumption)
       have hx6 := bt_at a0 x3_1
       replace p6 := eq_true p6
       replace q6 := eq_true q6
       go_wp2
       go_roundg k1
       case measure => have := HK1.out; omega
       case rel => exact ⟨(wrap64 (x3_1 + 1)), (by first | rfl | (simp; done) | (simp [*]; done)), H', ⟨by have := HK1.out; omega⟩, by repeat (first | exact Drawn0.refl _ | apply Drawn0.step)⟩
      ·rw [if_neg c7] at H
       have c7b0 : decide ((bt a0 x3_1) ≤ 122) = false := decide_eq_false c7
       clear c7
       by_cases c9 : (bt a0 x3_1) ≥ 65
       ·rw [if_pos c9] at H
        have c9b0 : decide (65 ≤ (bt a0 x3_1)) = true := decide_eq_true c9
        clear c9
        by_cases c11 : ((bt a0 x3_1) ≤ 90)
        ·rw [if_pos c11] at H
         have c11b0 : decide ((bt a0 x3_1) ≤ 90) = true := decide_eq_true c11
         clear c11
         have H' := Aside0.mk H
         clear H
         have p4 : 0 ≤ (x3_1 : Int) := of_decide_eq_true (by assumption)
         have q4 : x3_1 < (a0.size : Int) := of_decide_eq_true (by assumption)
         have hx4 := bt_at a0 x3_1
         replace p4 := eq_true p4
         replace q4 := eq_true q4
         have p6 : 0 ≤ (x3_1 : Int) := of_decide_eq_true (by assumption)
         have q6 : x3_1 < (a0.size : Int) := of_decide_eq_true (by assumption)
         have hx6 := bt_at a0 x3_1
         replace p6 := eq_true p6
         replace q6 := eq_true q6
         have p8 : 0 ≤ (x3_1 : Int) := of_decide_eq_true (by assumption)
         have q8 : x3_1 < (a0.size : Int) := of_decide_eq_true (by assumption)
         have hx8 := bt_at a0 x3_1
         replace p8 := eq_true p8
         replace q8 := eq_true q8
         have p10 : 0 ≤ (x3_1 : Int) := of_decide_eq_true (by assumption)
         have q10 : x3_1 < (a0.size : Int) := of_decide_eq_true (by assumption)
         have hx10 := bt_at a0 x3_1
         replace p10 := eq_true p10
         replace q10 := eq_true q10
         go_wp2
         go_roundg k1
         case measure => have := HK1.out; omega
         case rel => exact ⟨(wrap64 (x3_1 + 1)), (by first | rfl | (simp; done) | (simp [*]; done)), H', ⟨by have := HK1.out; omega⟩, by repeat (first | exact Drawn0.refl _ | apply Drawn0.step)⟩
        ·rw [if_neg c11] at H
         have c11b0 : decide ((bt a0 x3_1) ≤ 90) = false := decide_eq_false c11
         clear c11
         by_cases c12 : x3_1 = 0
         ·rw [if_pos c12] at H
          have c12b0 : (x3_1 == 0) = true := beq_iff_eq.mpr c12
          have c12b1 : (x3_1 != 0) = false := bne_eq_false_iff_eq.mpr c12
          clear c12
          obtain rfl := Option.some.inj H
          have p4 : 0 ≤ (x3_1 : Int) := of_decide_eq_true (by assumption)
          have q4 : x3_1 < (a0.size : Int) := of_decide_eq_true (by assumption)
          have hx4 := bt_at a0 x3_1
          replace p4 := eq_true p4
          replace q4 := eq_true q4
          have p6 : 0 ≤ (x3_1 : Int) := of_decide_eq_true (by assumption)
          have q6 : x3_1 < (a0.size : Int) := of_decide_eq_true (by assumption)
          have hx6 := bt_at a0 x3_1
          replace p6 := eq_true p6
          replace q6 := eq_true q6
          have p8 : 0 ≤ (x3_1 : Int) := of_decide_eq_true (by assumption)
          have q8 : x3_1 < (a0.size : Int) := of_decide_eq_true (by assumption)
          have hx8 := bt_at a0 x3_1
          replace p8 := eq_true p8
          replace q8 := eq_true q8
          have p10 : 0 ≤ (x3_1 : Int) := of_decide_eq_true (by assumption)
          have q10 : x3_1 < (a0.size : Int) := of_decide_eq_true (by assumption)
          have hx10 := bt_at a0 x3_1
          replace p10 := eq_true p10
          replace q10 := eq_true q10
          go_wp2
          go_ret
          exact ⟨by first | rfl | (simp; done) | (simp [*]; done), by repeat (first | exact Drawn0.refl _ | apply Drawn0.step)⟩
         ·rw [if_neg c12] at H
          have c12b0 : (x3_1 == 0) = false := beq_eq_false_iff_ne.mpr c12
          have c12b1 : (x3_1 != 0) = true := bne_iff_ne.mpr c12
          by_cases c14 : (bt a0 x3_1) < 48
          ·rw [if_pos c14] at H
           have c14b0 : decide ((bt a0 x3_1) < 48) = true := decide_eq_true c14
           clear c14
           obtain rfl := Option.some.inj H
           have p4 : 0 ≤ (x3_1 : Int) := of_decide_eq_true (by assumption)
           have q4 : x3_1 < (a0.size : Int) := of_decide_eq_true (by assumption)
           have hx4 := bt_at a0 x3_1
           replace p4 := eq_true p4
           replace q4 := eq_true q4
           have p6 : 0 ≤ (x3_1 : Int) := of_decide_eq_true (by assumption)
           have q6 : x3_1 < (a0.size : Int) := of_decide_eq_true (by assumption)
           have hx6 := bt_at a0 x3_1
           replace p6 := eq_true p6
           replace q6 := eq_true q6
           have p8 : 0 ≤ (x3_1 : Int) := of_decide_eq_true (by assumption)
           have q8 : x3_1 < (a0.size : Int) := of_decide_eq_true (by assumption)
           have hx8 := bt_at a0 x3_1
           replace p8 := eq_true p8
           replace q8 := eq_true q8
           have p10 : 0 ≤ (x3_1 : Int) := of_decide_eq_true (by assumption)
           have q10 : x3_1 < (a0.size : Int) := of_decide_eq_true (by assumption)
           have hx10 := bt_at a0 x3_1
           replace p10 := eq_true p10
           replace q10 := eq_true q10
           have p13 : 0 ≤ (x3_1 : Int) := of_decide_eq_true (by assumption)
           have q13 : x3_1 < (a0.size : Int) := of_decide_eq_true (by assumption)
           have hx13 := bt_at a0 x3_1
           replace p13 := eq_true p13
           replace q13 := eq_true q13
           go_wp2
           go_ret
           exact ⟨by first | rfl | (simp; done) | (simp [*]; done), by repeat (first | exact Drawn0.refl _ | apply Drawn0.step)⟩
          ·rw [if_neg c14] at H
           have c14b0 : decide ((bt a0 x3_1) < 48) = false := decide_eq_false c14
           clear c14
           by_cases c16 : (bt a0 x3_1) > 57
           ·rw [if_pos c16] at H
            have c16b0 : decide (57 < (bt a0 x3_1)) = true := decide_eq_true c16
            clear c16
            obtain rfl := Option.some.inj H
            have p4 : 0 ≤ (x3_1 : Int) := of_decide_eq_true (by assumption)
            have q4 : x3_1 < (a0.size : Int) := of_decide_eq_true (by assumption)
            have hx4 := bt_at a0 x3_1
            replace p4 := eq_true p4
            replace q4 := eq_true q4
            have p6 : 0 ≤ (x3_1 : Int) := of_decide_eq_true (by assumption)
            have q6 : x3_1 < (a0.size : Int) := of_decide_eq_true (by assumption)
            have hx6 := bt_at a0 x3_1
            replace p6 := eq_true p6
            replace q6 := eq_true q6
            have p8 : 0 ≤ (x3_1 : Int) := of_decide_eq_true (by assumption)
            have q8 : x3_1 < (a0.size : Int) := of_decide_eq_true (by assumption)
            have hx8 := bt_at a0 x3_1
            replace p8 := eq_true p8
            replace q8 := eq_true q8
            have p10 : 0 ≤ (x3_1 : Int) := of_decide_eq_true (by assumption)
            have q10 : x3_1 < (a0.size : Int) := of_decide_eq_true (by assumption)
            have hx10 := bt_at a0 x3_1
            replace p10 := eq_true p10
            replace q10 := eq_true q10
            have p13 : 0 ≤ (x3_1 : Int) := of_decide_eq_true (by assumption)
            have q13 : x3_1 < (a0.size : Int) := of_decide_eq_true (by assumption)
            have hx13 := bt_at a0 x3_1
            replace p13 := eq_true p13
            replace q13 := eq_true q13
            have p15 : 0 ≤ (x3_1 : Int) := of_decide_eq_true (by assumption)
            have q15 : x3_1 < (a0.size : Int) := of_decide_eq_true (by assumption)
            have hx15 := bt_at a0 x3_1
            replace p15 := eq_true p15
            replace q15 := eq_true q15
            go_wp2
            go_ret
            exact ⟨by first | rfl | (simp; done) | (simp [*]; done), by repeat (first | exact Drawn0.refl _ | apply Drawn0.step)⟩
           ·rw [if_neg c16] at H
            have c16b0 : decide (57 < (bt a0 x3_1)) = false := decide_eq_false c16
            clear c16
            have H' := Aside0.mk H
            clear H
            have p4 : 0 ≤ (x3_1 : Int) := of_decide_eq_true (by assumption)
            have q4 : x3_1 < (a0.size : Int) := of_decide_eq_true (by assumption)
            have hx4 := bt_at a0 x3_1
            replace p4 := eq_true p4
            replace q4 := eq_true q4
            have p6 : 0 ≤ (x3_1 : Int) := of_decide_eq_true (by assumption)
            have q6 : x3_1 < (a0.size : Int) := of_decide_eq_true (by assumption)
            have hx6 := bt_at a0 x3_1
            replace p6 := eq_true p6
            replace q6 := eq_true q6
            have p8 : 0 ≤ (x3_1 : Int) := of_decide_eq_true (by assumption)
            have q8 : x3_1 < (a0.size : Int) := of_decide_eq_true (by assumption)
            have hx8 := bt_at a0 x3_1
            replace p8 := eq_true p8
            replace q8 := eq_true q8
            have p10 : 0 ≤ (x3_1 : Int) := of_decide_eq_true (by assumption)
            have q10 : x3_1 < (a0.size : Int) := of_decide_eq_true (by assumption)
            have hx10 := bt_at a0 x3_1
            replace p10 := eq_true p10
            replace q10 := eq_true q10
            have p13 : 0 ≤ (x3_1 : Int) := of_decide_eq_true (by assumption)
            have q13 : x3_1 < (a0.size : Int) := of_decide_eq_true (by assumption)
            have hx13 := bt_at a0 x3_1
            replace p13 := eq_true p13
            replace q13 := eq_true q13
            have p15 : 0 ≤ (x3_1 : Int) := of_decide_eq_true (by assumption)
            have q15 : x3_1 < (a0.size : Int) := of_decide_eq_true (by assumption)
            have hx15 := bt_at a0 x3_1
            replace p15 := eq_true p15
            replace q15 := eq_true q15
            go_wp2
            go_roundg k1
            case measure => have := HK1.out; omega
            case rel => exact ⟨(wrap64 (x3_1 + 1)), (by first | rfl | (simp; done) | (simp [*]; done)), H', ⟨by have := HK1.out; omega⟩, by repeat (first | exact Drawn0.refl _ | apply Drawn0.step)⟩
       ·rw [if_neg c9] at H
        have c9b0 : decide (65 ≤ (bt a0 x3_1)) = false := decide_eq_false c9
        clear c9
        by_cases c17 : x3_1 = 0
        ·rw [if_pos c17] at H
         have c17b0 : (x3_1 == 0) = true := beq_iff_eq.mpr c17
         have c17b1 : (x3_1 != 0) = false := bne_eq_false_iff_eq.mpr c17
         clear c17
         obtain rfl := Option.some.inj H
         have p4 : 0 ≤ (x3_1 : Int) := of_decide_eq_true (by assumption)
         have q4 : x3_1 < (a0.size : Int) := of_decide_eq_true (by assumption)
         have hx4 := bt_at a0 x3_1
         replace p4 := eq_true p4
         replace q4 := eq_true q4
         have p6 : 0 ≤ (x3_1 : Int) := of_decide_eq_true (by assumption)
         have q6 : x3_1 < (a0.size : Int) := of_decide_eq_true (by assumption)
         have hx6 := bt_at a0 x3_1
         replace p6 := eq_true p6
         replace q6 := eq_true q6
         have p8 : 0 ≤ (x3_1 : Int) := of_decide_eq_true (by assumption)
         have q8 : x3_1 < (a0.size : Int) := of_decide_eq_true (by assumption)
         have hx8 := bt_at a0 x3_1
         replace p8 := eq_true p8
         replace q8 := eq_true q8
         go_wp2
         go_ret
         exact ⟨by first | rfl | (simp; done) | (simp [*]; done), by repeat (first | exact Drawn0.refl _ | apply Drawn0.step)⟩
        ·rw [if_neg c17] at H
         have c17b0 : (x3_1 == 0) = false := beq_eq_false_iff_ne.mpr c17
         have c17b1 : (x3_1 != 0) = true := bne_iff_ne.mpr c17
         by_cases c19 : (bt a0 x3_1) < 48
         ·rw [if_pos c19] at H
          have c19b0 : decide ((bt a0 x3_1) < 48) = true := decide_eq_true c19
          clear c19
          obtain rfl := Option.some.inj H
          have p4 : 0 ≤ (x3_1 : Int) := of_decide_eq_true (by assumption)
          have q4 : x3_1 < (a0.size : Int) := of_decide_eq_true (by assumption)
          have hx4 := bt_at a0 x3_1
          replace p4 := eq_true p4
          replace q4 := eq_true q4
          have p6 : 0 ≤ (x3_1 : Int) := of_decide_eq_true (by assumption)
          have q6 : x3_1 < (a0.size : Int) := of_decide_eq_true (by assumption)
          have hx6 := bt_at a0 x3_1
          replace p6 := eq_true p6
          replace q6 := eq_true q6
          have p8 : 0 ≤ (x3_1 : Int) := of_decide_eq_true (by assumption)
          have q8 : x3_1 < (a0.size : Int) := of_decide_eq_true (by assumption)
          have hx8 := bt_at a0 x3_1
          replace p8 := eq_true p8
          replace q8 := eq_true q8
          have p18 : 0 ≤ (x3_1 : Int) := of_decide_eq_true (by assumption)
          have q18 : x3_1 < (a0.size : Int) := of_decide_eq_true (by assumption)
          have hx18 := bt_at a0 x3_1
          replace p18 := eq_true p18
          replace q18 := eq_true q18
          go_wp2
          go_ret
          exact ⟨by first | rfl | (simp; done) | (simp [*]; done), by repeat (first | exact Drawn0.refl _ | apply Drawn0.step)⟩
         ·rw [if_neg c19] at H
          have c19b0 : decide ((bt a0 x3_1) < 48) = false := decide_eq_false c19
          clear c19
          by_cases c21 : (bt a0 x3_1) > 57
          ·rw [if_pos c21] at H
           have c21b0 : decide (57 < (bt a0 x3_1)) = true := decide_eq_true c21
           clear c21
           obtain rfl := Option.some.inj H
           have p4 : 0 ≤ (x3_1 : Int) := of_decide_eq_true (by assumption)
           have q4 : x3_1 < (a0.size : Int) := of_decide_eq_true (by assumption)
           have hx4 := bt_at a0 x3_1
           replace p4 := eq_true p4
           replace q4 := eq_true q4
           have p6 : 0 ≤ (x3_1 : Int) := of_decide_eq_true (by assumption)
           have q6 : x3_1 < (a0.size : Int) := of_decide_eq_true (by assumption)
           have hx6 := bt_at a0 x3_1
           replace p6 := eq_true p6
           replace q6 := eq_true q6
           have p8 : 0 ≤ (x3_1 : Int) := of_decide_eq_true (by assumption)
           have q8 : x3_1 < (a0.size : Int) := of_decide_eq_true (by assumption)
           have hx8 := bt_at a0 x3_1
           replace p8 := eq_true p8
           replace q8 := eq_true q8
           have p18 : 0 ≤ (x3_1 : Int) := of_decide_eq_true (by assumption)
           have q18 : x3_1 < (a0.size : Int) := of_decide_eq_true (by assumption)
           have hx18 := bt_at a0 x3_1
           replace p18 := eq_true p18
           replace q18 := eq_true q18
           have p20 : 0 ≤ (x3_1 : Int) := of_decide_eq_true (by assumption)
           have q20 : x3_1 < (a0.size : Int) := of_decide_eq_true (by assumption)
           have hx20 := bt_at a0 x3_1
           replace p20 := eq_true p20
           replace q20 := eq_true q20
           go_wp2
           go_ret
           exact ⟨by first | rfl | (simp; done) | (simp [*]; done), by repeat (first | exact Drawn0.refl _ | apply Drawn0.step)⟩
          ·rw [if_neg c21] at H
           have c21b0 : decide (57 < (bt a0 x3_1)) = false := decide_eq_false c21
           clear c21
           have H' := Aside0.mk H
           clear H
           have p4 : 0 ≤ (x3_1 : Int) := of_decide_eq_true (by assumption)
           have q4 : x3_1 < (a0.size : Int) := of_decide_eq_true (by assumption)
           have hx4 := bt_at a0 x3_1
           replace p4 := eq_true p4
           replace q4 := eq_true q4
           have p6 : 0 ≤ (x3_1 : Int) := of_decide_eq_true (by assumption)
           have q6 : x3_1 < (a0.size : Int) := of_decide_eq_true (by assumption)
           have hx6 := bt_at a0 x3_1
           replace p6 := eq_true p6
           replace q6 := eq_true q6
           have p8 : 0 ≤ (x3_1 : Int) := of_decide_eq_true (by assumption)
           have q8 : x3_1 < (a0.size : Int) := of_decide_eq_true (by assumption)
           have hx8 := bt_at a0 x3_1
           replace p8 := eq_true p8
           replace q8 := eq_true q8
           have p18 : 0 ≤ (x3_1 : Int) := of_decide_eq_true (by assumption)
           have q18 : x3_1 < (a0.size : Int) := of_decide_eq_true (by assumption)
           have hx18 := bt_at a0 x3_1
           replace p18 := eq_true p18
           replace q18 := eq_true q18
           have p20 : 0 ≤ (x3_1 : Int) := of_decide_eq_true (by assumption)
           have q20 : x3_1 < (a0.size : Int) := of_decide_eq_true (by assumption)
           have hx20 := bt_at a0 x3_1
           replace p20 := eq_true p20
           replace q20 := eq_true q20
           go_wp2
           go_roundg k1
           case measure => have := HK1.out; omega
           case rel => exact ⟨(wrap64 (x3_1 + 1)), (by first | rfl | (simp; done) | (simp [*]; done)), H', ⟨by have := HK1.out; omega⟩, by repeat (first | exact Drawn0.refl _ | apply Drawn0.step)⟩
     ·rw [if_neg c5] at H
      have c5b0 : decide (97 ≤ (bt a0 x3_1)) = false := decide_eq_false c5
      clear c5
      by_cases c23 : (bt a0 x3_1) ≥ 65
      ·rw [if_pos c23] at H
       have c23b0 : decide (65 ≤ (bt a0 x3_1)) = true := decide_eq_true c23
       clear c23
       by_cases c25 : ((bt a0 x3_1) ≤ 90)
       ·rw [if_pos c25] at H
        have c25b0 : decide ((bt a0 x3_1) ≤ 90) = true := decide_eq_true c25
        clear c25
        have H' := Aside0.mk H
        clear H
        have p4 : 0 ≤ (x3_1 : Int) := of_decide_eq_true (by assumption)
        have q4 : x3_1 < (a0.size : Int) := of_decide_eq_true (by assumption)
        have hx4 := bt_at a0 x3_1
        replace p4 := eq_true p4
        replace q4 := eq_true q4
        have p22 : 0 ≤ (x3_1 : Int) := of_decide_eq_true (by assumption)
        have q22 : x3_1 < (a0.size : Int) := of_decide_eq_true (by assumption)
        have hx22 := bt_at a0 x3_1
        replace p22 := eq_true p22
        replace q22 := eq_true q22
        have p24 : 0 ≤ (x3_1 : Int) := of_decide_eq_true (by assumption)
        have q24 : x3_1 < (a0.size : Int) := of_decide_eq_true (by assumption)
        have hx24 := bt_at a0 x3_1
        replace p24 := eq_true p24
        replace q24 := eq_true q24
        go_wp2
        go_roundg k1
        case measure => have := HK1.out; omega
        case rel => exact ⟨(wrap64 (x3_1 + 1)), (by first | rfl | (simp; done) | (simp [*]; done)), H', ⟨by have := HK1.out; omega⟩, by repeat (first | exact Drawn0.refl _ | apply Drawn0.step)⟩
       ·rw [if_neg c25] at H
        have c25b0 : decide ((bt a0 x3_1) ≤ 90) = false := decide_eq_false c25
        clear c25
        by_cases c26 : x3_1 = 0
        ·rw [if_pos c26] at H
         have c26b0 : (x3_1 == 0) = true := beq_iff_eq.mpr c26
         have c26b1 : (x3_1 != 0) = false := bne_eq_false_iff_eq.mpr c26
         clear c26
         obtain rfl := Option.some.inj H
         have p4 : 0 ≤ (x3_1 : Int) := of_decide_eq_true (by assumption)
         have q4 : x3_1 < (a0.size : Int) := of_decide_eq_true (by assumption)
         have hx4 := bt_at a0 x3_1
         replace p4 := eq_true p4
         replace q4 := eq_true q4
         have p22 : 0 ≤ (x3_1 : Int) := of_decide_eq_true (by assumption)
         have q22 : x3_1 < (a0.size : Int) := of_decide_eq_true (by assumption)
         have hx22 := bt_at a0 x3_1
         replace p22 := eq_true p22
         replace q22 := eq_true q22
         have p24 : 0 ≤ (x3_1 : Int) := of_decide_eq_true (by assumption)
         have q24 : x3_1 < (a0.size : Int) := of_decide_eq_true (by assumption)
         have hx24 := bt_at a0 x3_1
         replace p24 := eq_true p24
         replace q24 := eq_true q24
         go_wp2
         go_ret
         exact ⟨by first | rfl | (simp; done) | (simp [*]; done), by repeat (first | exact Drawn0.refl _ | apply Drawn0.step)⟩
        ·rw [if_neg c26] at H
         have c26b0 : (x3_1 == 0) = false := beq_eq_false_iff_ne.mpr c26
         have c26b1 : (x3_1 != 0) = true := bne_iff_ne.mpr c26
         by_cases c28 : (bt a0 x3_1) < 48
         ·rw [if_pos c28] at H
          have c28b0 : decide ((bt a0 x3_1) < 48) = true := decide_eq_true c28
          clear c28
          obtain rfl := Option.some.inj H
          have p4 : 0 ≤ (x3_1 : Int) := of_decide_eq_true (by assumption)
          have q4 : x3_1 < (a0.size : Int) := of_decide_eq_true (by assumption)
          have hx4 := bt_at a0 x3_1
          replace p4 := eq_true p4
          replace q4 := eq_true q4
          have p22 : 0 ≤ (x3_1 : Int) := of_decide_eq_true (by assumption)
          have q22 : x3_1 < (a0.size : Int) := of_decide_eq_true (by assumption)
          have hx22 := bt_at a0 x3_1
          replace p22 := eq_true p22
          replace q22 := eq_true q22
          have p24 : 0 ≤ (x3_1 : Int) := of_decide_eq_true (by assumption)
          have q24 : x3_1 < (a0.size : Int) := of_decide_eq_true (by assumption)
          have hx24 := bt_at a0 x3_1
          replace p24 := eq_true p24
          replace q24 := eq_true q24
          have p27 : 0 ≤ (x3_1 : Int) := of_decide_eq_true (by assumption)
          have q27 : x3_1 < (a0.size : Int) := of_decide_eq_true (by assumption)
          have hx27 := bt_at a0 x3_1
          replace p27 := eq_true p27
          replace q27 := eq_true q27
          go_wp2
          go_ret
          exact ⟨by first | rfl | (simp; done) | (simp [*]; done), by repeat (first | exact Drawn0.refl _ | apply Drawn0.step)⟩
         ·rw [if_neg c28] at H
          have c28b0 : decide ((bt a0 x3_1) < 48) = false := decide_eq_false c28
          clear c28
          by_cases c30 : (bt a0 x3_1) > 57
          ·rw [if_pos c30] at H
           have c30b0 : decide (57 < (bt a0 x3_1)) = true := decide_eq_true c30
           clear c30
           obtain rfl := Option.some.inj H
           have p4 : 0 ≤ (x3_1 : Int) := of_decide_eq_true (by assumption)
           have q4 : x3_1 < (a0.size : Int) := of_decide_eq_true (by assumption)
           have hx4 := bt_at a0 x3_1
           replace p4 := eq_true p4
           replace q4 := eq_true q4
           have p22 : 0 ≤ (x3_1 : Int) := of_decide_eq_true (by assumption)
           have q22 : x3_1 < (a0.size : Int) := of_decide_eq_true (by assumption)
           have hx22 := bt_at a0 x3_1
           replace p22 := eq_true p22
           replace q22 := eq_true q22
           have p24 : 0 ≤ (x3_1 : Int) := of_decide_eq_true (by assumption)
           have q24 : x3_1 < (a0.size : Int) := of_decide_eq_true (by assumption)
           have hx24 := bt_at a0 x3_1
           replace p24 := eq_true p24
           replace q24 := eq_true q24
           have p27 : 0 ≤ (x3_1 : Int) := of_decide_eq_true (by assumption)
           have q27 : x3_1 < (a0.size : Int) := of_decide_eq_true (by assumption)
           have hx27 := bt_at a0 x3_1
           replace p27 := eq_true p27
           replace q27 := eq_true q27
           have p29 : 0 ≤ (x3_1 : Int) := of_decide_eq_true (by assumption)
           have q29 : x3_1 < (a0.size : Int) := of_decide_eq_true (by assumption)
           have hx29 := bt_at a0 x3_1
           replace p29 := eq_true p29
           replace q29 := eq_true q29
           go_wp2
           go_ret
           exact ⟨by first | rfl | (simp; done) | (simp [*]; done), by repeat (first | exact Drawn0.refl _ | apply Drawn0.step)⟩
          ·rw [if_neg c30] at H
           have c30b0 : decide (57 < (bt a0 x3_1)) = false := decide_eq_false c30
           clear c30
           have H' := Aside0.mk H
           clear H
           have p4 : 0 ≤ (x3_1 : Int) := of_decide_eq_true (by assumption)
           have q4 : x3_1 < (a0.size : Int) := of_decide_eq_true (by assumption)
           have hx4 := bt_at a0 x3_1
           replace p4 := eq_true p4
           replace q4 := eq_true q4
           have p22 : 0 ≤ (x3_1 : Int) := of_decide_eq_true (by assumption)
           have q22 : x3_1 < (a0.size : Int) := of_decide_eq_true (by assumption)
           have hx22 := bt_at a0 x3_1
           replace p22 := eq_true p22
           replace q22 := eq_true q22
           have p24 : 0 ≤ (x3_1 : Int) := of_decide_eq_true (by assumption)
           have q24 : x3_1 < (a0.size : Int) := of_decide_eq_true (by assumption)
           have hx24 := bt_at a0 x3_1
           replace p24 := eq_true p24
           replace q24 := eq_true q24
           have p27 : 0 ≤ (x3_1 : Int) := of_decide_eq_true (by assumption)
           have q27 : x3_1 < (a0.size : Int) := of_decide_eq_true (by assumption)
           have hx27 := bt_at a0 x3_1
           replace p27 := eq_true p27
           replace q27 := eq_true q27
           have p29 : 0 ≤ (x3_1 : Int) := of_decide_eq_true (by assumption)
           have q29 : x3_1 < (a0.size : Int) := of_decide_eq_true (by assumption)
           have hx29 := bt_at a0 x3_1
           replace p29 := eq_true p29
           replace q29 := eq_true q29
           go_wp2
           go_roundg k1
           case measure => have := HK1.out; omega
           case rel => exact ⟨(wrap64 (x3_1 + 1)), (by first | rfl | (simp; done) | (simp [*]; done)), H', ⟨by have := HK1.out; omega⟩, by repeat (first | exact Drawn0.refl _ | apply Drawn0.step)⟩
      ·rw [if_neg c23] at H
       have c23b0 : decide (65 ≤ (bt a0 x3_1)) = false := decide_eq_false c23
       clear c23
       by_cases c31 : x3_1 = 0
       ·rw [if_pos c31] at H
        have c31b0 : (x3_1 == 0) = true := beq_iff_eq.mpr c31
        have c31b1 : (x3_1 != 0) = false := bne_eq_false_iff_eq.mpr c31
        clear c31
        obtain rfl := Option.some.inj H
        have p4 : 0 ≤ (x3_1 : Int) := of_decide_eq_true (by assumption)
        have q4 : x3_1 < (a0.size : Int) := of_decide_eq_true (by assumption)
        have hx4 := bt_at a0 x3_1
        replace p4 := eq_true p4
        replace q4 := eq_true q4
        have p22 : 0 ≤ (x3_1 : Int) := of_decide_eq_true (by assumption)
        have q22 : x3_1 < (a0.size : Int) := of_decide_eq_true (by assumption)
        have hx22 := bt_at a0 x3_1
        replace p22 := eq_true p22
        replace q22 := eq_true q22
        go_wp2
        go_ret
        exact ⟨by first | rfl | (simp; done) | (simp [*]; done), by repeat (first | exact Drawn0.refl _ | apply Drawn0.step)⟩
       ·rw [if_neg c31] at H
        have c31b0 : (x3_1 == 0) = false := beq_eq_false_iff_ne.mpr c31
        have c31b1 : (x3_1 != 0) = true := bne_iff_ne.mpr c31
        by_cases c33 : (bt a0 x3_1) < 48
        ·rw [if_pos c33] at H
         have c33b0 : decide ((bt a0 x3_1) < 48) = true := decide_eq_true c33
         clear c33
         obtain rfl := Option.some.inj H
         have p4 : 0 ≤ (x3_1 : Int) := of_decide_eq_true (by assumption)
         have q4 : x3_1 < (a0.size : Int) := of_decide_eq_true (by assumption)
         have hx4 := bt_at a0 x3_1
         replace p4 := eq_true p4
         replace q4 := eq_true q4
         have p22 : 0 ≤ (x3_1 : Int) := of_decide_eq_true (by assumption)
         have q22 : x3_1 < (a0.size : Int) := of_decide_eq_true (by assumption)
         have hx22 := bt_at a0 x3_1
         replace p22 := eq_true p22
         replace q22 := eq_true q22
         have p32 : 0 ≤ (x3_1 : Int) := of_decide_eq_true (by assumption)
         have q32 : x3_1 < (a0.size : Int) := of_decide_eq_true (by assumption)
         have hx32 := bt_at a0 x3_1
         replace p32 := eq_true p32
         replace q32 := eq_true q32
         go_wp2
         go_ret
         exact ⟨by first | rfl | (simp; done) | (simp [*]; done), by repeat (first | exact Drawn0.refl _ | apply Drawn0.step)⟩
        ·rw [if_neg c33] at H
         have c33b0 : decide ((bt a0 x3_1) < 48) = false := decide_eq_false c33
         clear c33
         by_cases c35 : (bt a0 x3_1) > 57
         ·rw [if_pos c35] at H
          have c35b0 : decide (57 < (bt a0 x3_1)) = true := decide_eq_true c35
          clear c35
          obtain rfl := Option.some.inj H
          have p4 : 0 ≤ (x3_1 : Int) := of_decide_eq_true (by assumption)
          have q4 : x3_1 < (a0.size : Int) := of_decide_eq_true (by assumption)
          have hx4 := bt_at a0 x3_1
          replace p4 := eq_true p4
          replace q4 := eq_true q4
          have p22 : 0 ≤ (x3_1 : Int) := of_decide_eq_true (by assumption)
          have q22 : x3_1 < (a0.size : Int) := of_decide_eq_true (by assumption)
          have hx22 := bt_at a0 x3_1
          replace p22 := eq_true p22
          replace q22 := eq_true q22
          have p32 : 0 ≤ (x3_1 : Int) := of_decide_eq_true (by assumption)
          have q32 : x3_1 < (a0.size : Int) := of_decide_eq_true (by assumption)
          have hx32 := bt_at a0 x3_1
          replace p32 := eq_true p32
          replace q32 := eq_true q32
          have p34 : 0 ≤ (x3_1 : Int) := of_decide_eq_true (by assumption)
          have q34 : x3_1 < (a0.size : Int) := of_decide_eq_true (by assumption)
          have hx34 := bt_at a0 x3_1
          replace p34 := eq_true p34
          replace q34 := eq_true q34
          go_wp2
          go_ret
          exact ⟨by first | rfl | (simp; done) | (simp [*]; done), by repeat (first | exact Drawn0.refl _ | apply Drawn0.step)⟩
         ·rw [if_neg c35] at H
          have c35b0 : decide (57 < (bt a0 x3_1)) = false := decide_eq_false c35
          clear c35
          have H' := Aside0.mk H
          clear H
          have p4 : 0 ≤ (x3_1 : Int) := of_decide_eq_true (by assumption)
          have q4 : x3_1 < (a0.size : Int) := of_decide_eq_true (by assumption)
          have hx4 := bt_at a0 x3_1
          replace p4 := eq_true p4
          replace q4 := eq_true q4
          have p22 : 0 ≤ (x3_1 : Int) := of_decide_eq_true (by assumption)
          have q22 : x3_1 < (a0.size : Int) := of_decide_eq_true (by assumption)
          have hx22 := bt_at a0 x3_1
          replace p22 := eq_true p22
          replace q22 := eq_true q22
          have p32 : 0 ≤ (x3_1 : Int) := of_decide_eq_true (by assumption)
          have q32 : x3_1 < (a0.size : Int) := of_decide_eq_true (by assumption)
          have hx32 := bt_at a0 x3_1
          replace p32 := eq_true p32
          replace q32 := eq_true q32
          have p34 : 0 ≤ (x3_1 : Int) := of_decide_eq_true (by assumption)
          have q34 : x3_1 < (a0.size : Int) := of_decide_eq_true (by assumption)
          have hx34 := bt_at a0 x3_1
          replace p34 := eq_true p34
          replace q34 := eq_true q34
          go_wp2
          go_roundg k1
          case measure => have := HK1.out; omega
          case rel => exact ⟨(wrap64 (x3_1 + 1)), (by first | rfl | (simp; done) | (simp [*]; done)), H', ⟨by have := HK1.out; omega⟩, by repeat (first | exact Drawn0.refl _ | apply Drawn0.step)⟩
    ·rw [if_neg c3] at H
     exact absurd H (by simp)
   ·rw [if_neg c2] at H
    have c2b0 : decide (x3_1 < (a0.size : Int)) = false := decide_eq_false c2
    clear c2
    replace H := Option.bind_eq_some_iff.mp H
    obtain ⟨t166, A360, H⟩ := H
    replace H : (some t166) = some r := H
    have A36 := Aside0.mk A360
    clear A360
    obtain rfl := Option.some.inj H
    go_wp2_with (first | ((with_reducible refine gate_callee (f := 54) rfl ?_); refine goesL_ (some 53) rfl rfl Tryz.func54 (by kernel_rfl) rfl #[.int .i64 (a0.size : Int), .int .i64 1, .int .i64 10] rfl (by (try simp only [List.map_toArray, List.map_cons, List.map_nil]); first | done | rfl | (simp only [List.length_drop, List.length_take]; rfl)) ?_; (with_reducible refine (spec_l1In.calls (a0.size : Int) 1 10 t166 _ A36.out).mono ?_); rintro e w' ⟨rfl, ⟨nd, rfl⟩⟩; refine ⟨_, rfl, ?_⟩))
    go_ret
    exact ⟨by first | rfl | (simp; done) | (simp [*]; done), by repeat (first | exact Drawn0.refl _ | apply Drawn0.step)⟩

end Go.Proofs.YtjeipkfeihahdaaGreatDoor.P
