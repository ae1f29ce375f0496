-- PRINTED by print.py (a twelfth state) out of the translation. Not trusted: Lean checks it.
import Derived.Test.YteocobbddngllaaDoorPx0
import Derived.Test.YteocobbddngllaaDoorPx1
import Derived.Test.YteocobbddngllaaDoorPx2
import Derived.Test.YteocobbddngllaaDoorPx3
namespace Go.Proofs.YteocobbddngllaaDoor.P
open Go.RowKit Go.Proofs.YteocobbddngllaaDoorW.PrintWords Go.Proofs.YteocobbddngllaaDoorW.PrintLast Go.Proofs.YteocobbddngllaaDoorW.PrintMore
attribute [local go_sem] max2_int min2_int max_two min_two max_three min_three max_four min_four   -- for this text's walks alone
set_option linter.unusedVariables false
set_option linter.unusedSimpArgs false

/-! ### spec_l3Pack: function 28 -/
mutual
def spec_l3Pack.l0 : Nat → ByteArray → ByteArray → Int → Option (ByteArray)
  | 0, _, _, _ => none
  | k + 1, x0, x3, x4 => if x4 < (x0.size : Int) then (if 0 ≤ x4 then (if x4 ≤ (wrap64 (x4 + 8)) then (if (wrap64 (x4 + 8)) ≤ (x0.size : Int) then ((spec_l3Tag.f k (x0.extract (x4 : Int).toNat ((wrap64 (x4 + 8)) : Int).toNat)).bind fun t101 => ((some (([(t101) % 256] : List Int) : List Int)).bind fun y102 => (if x3.size + (strOfNums y102).size ≤ 9223372036854775807 then (spec_l3Pack.l1 k x0 (x3 ++ (strOfNums y102)) x4 (x0.extract (x4 : Int).toNat ((wrap64 (x4 + 8)) : Int).toNat) t101 0) else (none)))) else (none)) else (none)) else (none)) else (some x3)
def spec_l3Pack.l1 : Nat → ByteArray → ByteArray → Int → ByteArray → Int → Int → Option (ByteArray)
  | 0, _, _, _, _, _, _ => none
  | k + 1, x0, x3, x4, x5, x6, x7 => if x7 < 8 then (if 0 ≤ x7 then (if x7 < (x5.size : Int) then (if (bt x5 x7) = 0 then (spec_l3Pack.l1 k x0 x3 x4 x5 x6 (wrap64 (x7 + 1))) else (if x7 ≤ (wrap64 (x7 + 1)) then (if (wrap64 (x7 + 1)) ≤ (x5.size : Int) then (if x3.size + (x5.extract (x7 : Int).toNat ((wrap64 (x7 + 1)) : Int).toNat).size ≤ 9223372036854775807 then (spec_l3Pack.l1 k x0 (x3 ++ (x5.extract (x7 : Int).toNat ((wrap64 (x7 + 1)) : Int).toNat)) x4 x5 x6 (wrap64 (x7 + 1))) else (none)) else (none)) else (none))) else (none)) else (none)) else (if x6 = 0 then (spec_l3Pack.l2 k x0 x3 x4 x6 0) else (spec_l3Pack.j3 k x0 x3 x4 x6 0))
def spec_l3Pack.j3 : Nat → ByteArray → ByteArray → Int → Int → Int → Option (ByteArray)
  | 0, _, _, _, _, _ => none
  | k + 1, x0, x3, x4, x6, x8 => if x6 = 255 then (spec_l3Pack.l3 k x0 x3 x4 x8) else (spec_l3Pack.l0 k x0 x3 (wrap64 ((wrap64 (x4 + (wrap64 (8 * x8)))) + 8)))
def spec_l3Pack.l3 : Nat → ByteArray → ByteArray → Int → Int → Option (ByteArray)
  | 0, _, _, _, _ => none
  | k + 1, x0, x3, x4, x8 => if x8 < 255 then (if (wrap64 (x4 + (wrap64 (8 * (wrap64 (x8 + 1)))))) < (x0.size : Int) then (if 0 ≤ (wrap64 (x4 + (wrap64 (8 * (wrap64 (x8 + 1)))))) then (if (wrap64 (x4 + (wrap64 (8 * (wrap64 (x8 + 1)))))) ≤ (wrap64 (x4 + (wrap64 (8 * (wrap64 (x8 + 2)))))) then (if (wrap64 (x4 + (wrap64 (8 * (wrap64 (x8 + 2)))))) ≤ (x0.size : Int) then ((spec_l3Few.f k (x0.extract ((wrap64 (x4 + (wrap64 (8 * (wrap64 (x8 + 1)))))) : Int).toNat ((wrap64 (x4 + (wrap64 (8 * (wrap64 (x8 + 2)))))) : Int).toNat)).bind fun t115 => (if t115 = true then ((some (([(x8) % 256] : List Int) : List Int)).bind fun y116 => (if x3.size + (strOfNums y116).size ≤ 9223372036854775807 then (if 0 ≤ (wrap64 (x4 + 8)) then (if (wrap64 (x4 + 8)) ≤ (wrap64 (x4 + (wrap64 (8 * (wrap64 (x8 + 1)))))) then (if (wrap64 (x4 + (wrap64 (8 * (wrap64 (x8 + 1)))))) ≤ (x0.size : Int) then (if (x3 ++ (strOfNums y116)).size + (x0.extract ((wrap64 (x4 + 8)) : Int).toNat ((wrap64 (x4 + (wrap64 (8 * (wrap64 (x8 + 1)))))) : Int).toNat).size ≤ 9223372036854775807 then (spec_l3Pack.l0 k x0 ((x3 ++ (strOfNums y116)) ++ (x0.extract ((wrap64 (x4 + 8)) : Int).toNat ((wrap64 (x4 + (wrap64 (8 * (wrap64 (x8 + 1)))))) : Int).toNat)) (wrap64 ((wrap64 (x4 + (wrap64 (8 * x8)))) + 8))) else (none)) else (none)) else (none)) else (none)) else (none))) else (spec_l3Pack.l3 k x0 x3 x4 (wrap64 (x8 + 1))))) else (none)) else (none)) else (none)) else ((some (([(x8) % 256] : List Int) : List Int)).bind fun y119 => (if x3.size + (strOfNums y119).size ≤ 9223372036854775807 then (if 0 ≤ (wrap64 (x4 + 8)) then (if (wrap64 (x4 + 8)) ≤ (wrap64 (x4 + (wrap64 (8 * (wrap64 (x8 + 1)))))) then (if (wrap64 (x4 + (wrap64 (8 * (wrap64 (x8 + 1)))))) ≤ (x0.size : Int) then (if (x3 ++ (strOfNums y119)).size + (x0.extract ((wrap64 (x4 + 8)) : Int).toNat ((wrap64 (x4 + (wrap64 (8 * (wrap64 (x8 + 1)))))) : Int).toNat).size ≤ 9223372036854775807 then (spec_l3Pack.l0 k x0 ((x3 ++ (strOfNums y119)) ++ (x0.extract ((wrap64 (x4 + 8)) : Int).toNat ((wrap64 (x4 + (wrap64 (8 * (wrap64 (x8 + 1)))))) : Int).toNat)) (wrap64 ((wrap64 (x4 + (wrap64 (8 * x8)))) + 8))) else (none)) else (none)) else (none)) else (none)) else (none)))) else ((some (([(x8) % 256] : List Int) : List Int)).bind fun y122 => (if x3.size + (strOfNums y122).size ≤ 9223372036854775807 then (if 0 ≤ (wrap64 (x4 + 8)) then (if (wrap64 (x4 + 8)) ≤ (wrap64 (x4 + (wrap64 (8 * (wrap64 (x8 + 1)))))) then (if (wrap64 (x4 + (wrap64 (8 * (wrap64 (x8 + 1)))))) ≤ (x0.size : Int) then (if (x3 ++ (strOfNums y122)).size + (x0.extract ((wrap64 (x4 + 8)) : Int).toNat ((wrap64 (x4 + (wrap64 (8 * (wrap64 (x8 + 1)))))) : Int).toNat).size ≤ 9223372036854775807 then (spec_l3Pack.l0 k x0 ((x3 ++ (strOfNums y122)) ++ (x0.extract ((wrap64 (x4 + 8)) : Int).toNat ((wrap64 (x4 + (wrap64 (8 * (wrap64 (x8 + 1)))))) : Int).toNat)) (wrap64 ((wrap64 (x4 + (wrap64 (8 * x8)))) + 8))) else (none)) else (none)) else (none)) else (none)) else (none)))
def spec_l3Pack.l2 : Nat → ByteArray → ByteArray → Int → Int → Int → Option (ByteArray)
  | 0, _, _, _, _, _ => none
  | k + 1, x0, x3, x4, x6, x8 => if x8 < 255 then (if (wrap64 (x4 + (wrap64 (8 * (wrap64 (x8 + 1)))))) < (x0.size : Int) then (if 0 ≤ (wrap64 (x4 + (wrap64 (8 * (wrap64 (x8 + 1)))))) then (if (wrap64 (x4 + (wrap64 (8 * (wrap64 (x8 + 1)))))) ≤ (wrap64 (x4 + (wrap64 (8 * (wrap64 (x8 + 2)))))) then (if (wrap64 (x4 + (wrap64 (8 * (wrap64 (x8 + 2)))))) ≤ (x0.size : Int) then ((spec_l1Zero.f k (x0.extract ((wrap64 (x4 + (wrap64 (8 * (wrap64 (x8 + 1)))))) : Int).toNat ((wrap64 (x4 + (wrap64 (8 * (wrap64 (x8 + 2)))))) : Int).toNat)).bind fun t105 => (if t105 = true then (spec_l3Pack.l2 k x0 x3 x4 x6 (wrap64 (x8 + 1))) else ((some (([(x8) % 256] : List Int) : List Int)).bind fun y106 => (if x3.size + (strOfNums y106).size ≤ 9223372036854775807 then (spec_l3Pack.j3 k x0 (x3 ++ (strOfNums y106)) x4 x6 x8) else (none))))) else (none)) else (none)) else (none)) else ((some (([(x8) % 256] : List Int) : List Int)).bind fun y109 => (if x3.size + (strOfNums y109).size ≤ 9223372036854775807 then (spec_l3Pack.j3 k x0 (x3 ++ (strOfNums y109)) x4 x6 x8) else (none)))) else ((some (([(x8) % 256] : List Int) : List Int)).bind fun y112 => (if x3.size + (strOfNums y112).size ≤ 9223372036854775807 then (spec_l3Pack.j3 k x0 (x3 ++ (strOfNums y112)) x4 x6 x8) else (none)))
end
def spec_l3Pack.f (k : Nat) (a0 : ByteArray) : Option (ByteArray) := spec_l3Pack.l0 k a0 (⟨#[]⟩ : ByteArray) 0
theorem spec_l3Pack.mono_l : ∀ k, (∀ y0 y1 y2, LeO (spec_l3Pack.l0 k y0 y1 y2) (spec_l3Pack.l0 (k + 1) y0 y1 y2)) ∧ (∀ y0 y1 y2 y3 y4 y5, LeO (spec_l3Pack.l1 k y0 y1 y2 y3 y4 y5) (spec_l3Pack.l1 (k + 1) y0 y1 y2 y3 y4 y5)) ∧ (∀ y0 y1 y2 y3 y4, LeO (spec_l3Pack.j3 k y0 y1 y2 y3 y4) (spec_l3Pack.j3 (k + 1) y0 y1 y2 y3 y4)) ∧ (∀ y0 y1 y2 y3, LeO (spec_l3Pack.l3 k y0 y1 y2 y3) (spec_l3Pack.l3 (k + 1) y0 y1 y2 y3)) ∧ (∀ y0 y1 y2 y3 y4, LeO (spec_l3Pack.l2 k y0 y1 y2 y3 y4) (spec_l3Pack.l2 (k + 1) y0 y1 y2 y3 y4))
  | 0 => ⟨fun _ _ _ r h => by simp [spec_l3Pack.l0] at h, fun _ _ _ _ _ _ r h => by simp [spec_l3Pack.l1] at h, fun _ _ _ _ _ r h => by simp [spec_l3Pack.j3] at h, fun _ _ _ _ r h => by simp [spec_l3Pack.l3] at h, fun _ _ _ _ _ r h => by simp [spec_l3Pack.l2] at h⟩
  | k + 1 => by
    obtain ⟨ih0, ih1, ih2, ih3, ih4⟩ := spec_l3Pack.mono_l k
    refine ⟨?_, ?_, ?_, ?_, ?_⟩
    · intro y0 y1 y2
      unfold spec_l3Pack.l0
      repeat' first
      | (with_reducible exact ih0 _ _ _)
      | (with_reducible exact ih1 _ _ _ _ _ _)
      | (with_reducible exact ih2 _ _ _ _ _)
      | (with_reducible exact ih3 _ _ _ _)
      | (with_reducible exact ih4 _ _ _ _ _)
      | (with_reducible exact spec_l1Zero.mono _ _)
      | (with_reducible exact spec_l3Few.mono _ _)
      | (with_reducible exact spec_l3Tag.mono _ _)
      | (with_reducible exact LeO.refl _)
      | (with_reducible exact LeO.none _)
      | (with_reducible refine LeO.ite ?_ ?_)
      | (with_reducible refine LeO.bind ?_ (fun _ => ?_))
      | exact ih0 _ _ _
      | exact ih1 _ _ _ _ _ _
      | exact ih2 _ _ _ _ _
      | exact ih3 _ _ _ _
      | exact ih4 _ _ _ _ _
      | exact spec_l1Zero.mono _ _
      | exact spec_l3Few.mono _ _
      | exact spec_l3Tag.mono _ _
      | exact LeO.none _
      | refine LeO.ite ?_ ?_
      | refine LeO.bind ?_ (fun _ => ?_)
    · intro y0 y1 y2 y3 y4 y5
      unfold spec_l3Pack.l1
      repeat' first
      | (with_reducible exact ih0 _ _ _)
      | (with_reducible exact ih1 _ _ _ _ _ _)
      | (with_reducible exact ih2 _ _ _ _ _)
      | (with_reducible exact ih3 _ _ _ _)
      | (with_reducible exact ih4 _ _ _ _ _)
      | (with_reducible exact spec_l1Zero.mono _ _)
      | (with_reducible exact spec_l3Few.mono _ _)
      | (with_reducible exact spec_l3Tag.mono _ _)
      | (with_reducible exact LeO.refl _)
      | (with_reducible exact LeO.none _)
      | (with_reducible refine LeO.ite ?_ ?_)
      | (with_reducible refine LeO.bind ?_ (fun _ => ?_))
      | exact ih0 _ _ _
      | exact ih1 _ _ _ _ _ _
      | exact ih2 _ _ _ _ _
      | exact ih3 _ _ _ _
      | exact ih4 _ _ _ _ _
      | exact spec_l1Zero.mono _ _
      | exact spec_l3Few.mono _ _
      | exact spec_l3Tag.mono _ _
      | exact LeO.none _
      | refine LeO.ite ?_ ?_
      | refine LeO.bind ?_ (fun _ => ?_)
    · intro y0 y1 y2 y3 y4
      unfold spec_l3Pack.j3
      repeat' first
      | (with_reducible exact ih0 _ _ _)
      | (with_reducible exact ih1 _ _ _ _ _ _)
      | (with_reducible exact ih2 _ _ _ _ _)
      | (with_reducible exact ih3 _ _ _ _)
      | (with_reducible exact ih4 _ _ _ _ _)
      | (with_reducible exact spec_l1Zero.mono _ _)
      | (with_reducible exact spec_l3Few.mono _ _)
      | (with_reducible exact spec_l3Tag.mono _ _)
      | (with_reducible exact LeO.refl _)
      | (with_reducible exact LeO.none _)
      | (with_reducible refine LeO.ite ?_ ?_)
      | (with_reducible refine LeO.bind ?_ (fun _ => ?_))
      | exact ih0 _ _ _
      | exact ih1 _ _ _ _ _ _
      | exact ih2 _ _ _ _ _
      | exact ih3 _ _ _ _
      | exact ih4 _ _ _ _ _
      | exact spec_l1Zero.mono _ _
      | exact spec_l3Few.mono _ _
      | exact spec_l3Tag.mono _ _
      | exact LeO.none _
      | refine LeO.ite ?_ ?_
      | refine LeO.bind ?_ (fun _ => ?_)
    · intro y0 y1 y2 y3
      unfold spec_l3Pack.l3
      repeat' first
      | (with_reducible exact ih0 _ _ _)
      | (with_reducible exact ih1 _ _ _ _ _ _)
      | (with_reducible exact ih2 _ _ _ _ _)
      | (with_reducible exact ih3 _ _ _ _)
      | (with_reducible exact ih4 _ _ _ _ _)
      | (with_reducible exact spec_l1Zero.mono _ _)
      | (with_reducible exact spec_l3Few.mono _ _)
      | (with_reducible exact spec_l3Tag.mono _ _)
      | (with_reducible exact LeO.refl _)
      | (with_reducible exact LeO.none _)
      | (with_reducible refine LeO.ite ?_ ?_)
      | (with_reducible refine LeO.bind ?_ (fun _ => ?_))
      | exact ih0 _ _ _
      | exact ih1 _ _ _ _ _ _
      | exact ih2 _ _ _ _ _
      | exact ih3 _ _ _ _
      | exact ih4 _ _ _ _ _
      | exact spec_l1Zero.mono _ _
      | exact spec_l3Few.mono _ _
      | exact spec_l3Tag.mono _ _
      | exact LeO.none _
      | refine LeO.ite ?_ ?_
      | refine LeO.bind ?_ (fun _ => ?_)
    · intro y0 y1 y2 y3 y4
      unfold spec_l3Pack.l2
      repeat' first
      | (with_reducible exact ih0 _ _ _)
      | (with_reducible exact ih1 _ _ _ _ _ _)
      | (with_reducible exact ih2 _ _ _ _ _)
      | (with_reducible exact ih3 _ _ _ _)
      | (with_reducible exact ih4 _ _ _ _ _)
      | (with_reducible exact spec_l1Zero.mono _ _)
      | (with_reducible exact spec_l3Few.mono _ _)
      | (with_reducible exact spec_l3Tag.mono _ _)
      | (with_reducible exact LeO.refl _)
      | (with_reducible exact LeO.none _)
      | (with_reducible refine LeO.ite ?_ ?_)
      | (with_reducible refine LeO.bind ?_ (fun _ => ?_))
      | exact ih0 _ _ _
      | exact ih1 _ _ _ _ _ _
      | exact ih2 _ _ _ _ _
      | exact ih3 _ _ _ _
      | exact ih4 _ _ _ _ _
      | exact spec_l1Zero.mono _ _
      | exact spec_l3Few.mono _ _
      | exact spec_l3Tag.mono _ _
      | exact LeO.none _
      | refine LeO.ite ?_ ?_
      | refine LeO.bind ?_ (fun _ => ?_)
theorem spec_l3Pack.mono : ∀ a0 k, LeO (spec_l3Pack.f k a0) (spec_l3Pack.f (k + 1) a0) := by
  intro a0 k
  obtain ⟨ih0, ih1, ih2, ih3, ih4⟩ := spec_l3Pack.mono_l k
  unfold spec_l3Pack.f
  repeat' first
      | (with_reducible exact ih0 _ _ _)
      | (with_reducible exact ih1 _ _ _ _ _ _)
      | (with_reducible exact ih2 _ _ _ _ _)
      | (with_reducible exact ih3 _ _ _ _)
      | (with_reducible exact ih4 _ _ _ _ _)
      | (with_reducible exact spec_l1Zero.mono _ _)
      | (with_reducible exact spec_l3Few.mono _ _)
      | (with_reducible exact spec_l3Tag.mono _ _)
      | (with_reducible exact LeO.refl _)
      | (with_reducible exact LeO.none _)
      | (with_reducible refine LeO.ite ?_ ?_)
      | (with_reducible refine LeO.bind ?_ (fun _ => ?_))
      | exact ih0 _ _ _
      | exact ih1 _ _ _ _ _ _
      | exact ih2 _ _ _ _ _
      | exact ih3 _ _ _ _
      | exact ih4 _ _ _ _ _
      | exact spec_l1Zero.mono _ _
      | exact spec_l3Few.mono _ _
      | exact spec_l3Tag.mono _ _
      | exact LeO.none _
      | refine LeO.ite ?_ ?_
      | refine LeO.bind ?_ (fun _ => ?_)
def spec_l3Pack.T21 : Bool × List (List Nat × List Nat) := (true, [([], []), ([], []), ([1], [1]), ([2], [2]), ([3], [3]), ([0, 4], [0, 4]), ([], []), ([], []), ([7], [7]), ([], []), ([], []), ([10], [10]), ([11], [11]), ([9, 12], [9, 12]), ([6, 8, 13], [6, 8, 13]), ([5, 14], [5, 14]), ([15, 0, 1, 2, 3, 4, 5, 6, 7, 8, 9, 10, 11, 12, 13, 14, 15], [0, 15])])
def spec_l3Pack.B21 : List Nat := [0, 0, 2, 6, 14, 31, 0, 0, 128, 0, 0, 1024, 3072, 7680, 16320, 32767, 65535]
theorem spec_l3Pack.tab21 : rtab .any (opsOf Tryd.f28 21) = spec_l3Pack.T21 := by kernel_rfl
theorem spec_l3Pack.bits21 : waitsOk spec_l3Pack.T21.2 spec_l3Pack.B21 = true := by kernel_rfl
set_option maxHeartbeats 8000000 in
set_option maxRecDepth 100000 in
theorem spec_l3Pack.calls (k : Nat) (a0 : ByteArray) (r : ByteArray) (w : World) (h : spec_l3Pack.f k a0 = some r) :
    Calls Tryd.prog 28 #[.string a0] w fun e w' => e = .returned (.string r) ∧ Below w.heap.size w w' := by
  have HB := Aside0.mk (Below.refl w.heap.size w)
  have H : (spec_l3Pack.l0 k a0 (⟨#[]⟩ : ByteArray) 0) = some r := h
  clear h
  have H' := Aside0.mk H
  clear H
  go_enter Tryd.func28, Tryd.ntmps28
  go_wp2
  go_loopg [3, 4] k (fun kq v3 v4 w' => ∃ (x3_1 : ByteArray) (x4_1 : Int), v3 = .string x3_1 ∧ v4 = .int .i64 x4_1 ∧ Aside0 (spec_l3Pack.l0 kq a0 x3_1 x4_1 = some r) ∧ Aside0 (kq ≤ k) ∧ Aside0 (Below w.heap.size w w'))
  case atStart => exact ⟨((⟨#[]⟩ : ByteArray)), (0), (by first | rfl | (simp; done) | (simp [*]; done)), (by first | rfl | (simp; done) | (simp [*]; done)), H', ⟨Nat.le_refl _⟩, ⟨by repeat (first | (with_reducible first | exact HB.out | apply below_alloc | apply pw_below_drewN | apply below_drew1) | exact HB.out)⟩⟩
  case round =>
    clear H'
    obtain ⟨x3_1, x4_1, rfl, rfl, HA, HK1, HB⟩ := hrel
    cases gk with
    | zero => exact absurd HA.out (by simp [spec_l3Pack.l0])
    | succ k1 =>
      have H := HA.out
      clear HA
      simp only [spec_l3Pack.l0] at H
      by_cases c2 : x4_1 < (a0.size : Int)
      · rw [if_pos c2] at H
        have c2b0 : decide (x4_1 < (a0.size : Int)) = true := decide_eq_true c2
        clear c2
        by_cases c3 : 0 ≤ x4_1
        · rw [if_pos c3] at H
          have c3b0 := eq_true c3
          have c3b1 : decide (0 ≤ x4_1) = true := decide_eq_true c3
          clear c3
          by_cases c4 : x4_1 ≤ (wrap64 (x4_1 + 8))
          · rw [if_pos c4] at H
            have c4b0 := eq_true c4
            have c4b1 : decide (x4_1 ≤ (wrap64 (x4_1 + 8))) = true := decide_eq_true c4
            by_cases c5 : (wrap64 (x4_1 + 8)) ≤ (a0.size : Int)
            · rw [if_pos c5] at H
              have c5b0 := eq_true c5
              have c5b1 : decide ((wrap64 (x4_1 + 8)) ≤ (a0.size : Int)) = true := decide_eq_true c5
              replace H := Option.bind_eq_some_iff.mp H
              obtain ⟨t101, A60, H⟩ := H
              replace H : ((some (([(t101) % 256] : List Int) : List Int)).bind fun y102 => (if x3_1.size + (strOfNums y102).size ≤ 9223372036854775807 then (spec_l3Pack.l1 k1 a0 (x3_1 ++ (strOfNums y102)) x4_1 (a0.extract (x4_1 : Int).toNat ((wrap64 (x4_1 + 8)) : Int).toNat) t101 0) else (none))) = some r := H
              have A6 := Aside0.mk A60
              clear A60
              obtain ⟨y102, hy102⟩ : ∃ y_ : List Int, y_ = (([(t101) % 256] : List Int)) := ⟨_, rfl⟩
              replace H : (if x3_1.size + (strOfNums y102).size ≤ 9223372036854775807 then (spec_l3Pack.l1 k1 a0 (x3_1 ++ (strOfNums y102)) x4_1 (a0.extract (x4_1 : Int).toNat ((wrap64 (x4_1 + 8)) : Int).toNat) t101 0) else (none)) = some r := by first | (rw [hy102]; with_reducible exact H) | (have H2_ := (Option.bind_some _ _).symm.trans H; rw [hy102]; with_reducible exact H2_) | (have H2_ := (Option.bind_some _ _).symm.trans H; with_reducible exact H2_) | with_reducible exact H | (rw [hy102]; exact H) | exact H
              have Ny102 := Aside0.mk hy102
              clear hy102
              by_cases c7 : x3_1.size + (strOfNums y102).size ≤ 9223372036854775807
              · rw [if_pos c7] at H
                have c7b0 := eq_true c7
                have c7b1 : decide (x3_1.size + (strOfNums y102).size ≤ 9223372036854775807) = true := decide_eq_true c7
                try have c7b2 : (9223372036854775807 < x3_1.size + (strOfNums y102).size) = False := eq_false (Nat.not_lt.2 c7)
                have H' := Aside0.mk H
                clear H
                go_wp2_with (first | ((with_reducible refine gate_callee (f := 59) rfl ?_); refine goesL_ (some 21) rfl rfl Tryd.func59 (by kernel_rfl) rfl #[.string (a0.extract (x4_1 : Int).toNat ((wrap64 (x4_1 + 8)) : Int).toNat)] rfl (by (try simp only [List.map_toArray, List.map_cons, List.map_nil]); first | done | rfl | (simp only [List.length_drop, List.length_take]; rfl)) ?_; (with_reducible refine (spec_l3Tag.calls k1 (a0.extract (x4_1 : Int).toNat ((wrap64 (x4_1 + 8)) : Int).toNat) t101 _ A6.out).mono ?_); rintro e w' ⟨rfl, ⟨nd, rfl⟩⟩; refine ⟨_, rfl, ?_⟩) | ((with_reducible refine gate_dst (N := 25) rfl ?_); refine Kd.R_lit (Kd.int .u8) _ 5 ?hg (N := 25) ?hd (xs := ([(t101) % 256] : List Int)) (inner := [.int .u8 ((t101) % 256)]) (ok := fun _ => True) (okp := fun _ => True) ?hr ?hp (fun _ hk => hk) trivial (Below.refl _ _) (Nat.le_refl _) (by simp) ?_; (case hd => rfl); (case hg => rfl); (case hr => first | (go_simp; done) | (go_simp; rfl)); (case hp => exact (Reps.one (show Kd.M (Kd.int .u8) _ _ _ ((t101) % 256) [.int .u8 ((t101) % 256)] from rfl) (Reps.none _ _))); intro v103 w8 ho9 hb hg_ hnew_; clear hg_ hnew_; (first | rw [← Ny102.out] at ho9 | (simp only [Int.reduceToNat] at ho9; rw [← Ny102.out] at ho9)); have n0_ := Aside0.mk (Kd.R_lower ho9 (below_size (by repeat (first | (with_reducible first | exact HB.out | apply below_alloc | apply pw_below_drewN | apply below_drew1) | exact HB.out)))); have n1_ := Aside0.mk (below_step (by repeat (first | (with_reducible first | exact HB.out | apply below_alloc | apply pw_below_drewN | apply below_drew1) | exact HB.out)) hb); clear HB; have HO104 := n0_; have HB := n1_; clear n0_ n1_; clear hb ho9; have hcv10 := own_string (P := Tryd.prog) Tryd.underlying24 Tryd.underlying5 Tryd.underlying9 (Kd.own_of_R HO104.out)))
                generalize hwd1_ : (a0.extract (x4_1 : Int).toNat ((wrap64 (x4_1 + 8)) : Int).toNat) = wd1 at *
                go_loopg [3, 7] k1 (fun kq v3 v7 w' => ∃ (x3_2 : ByteArray) (x7_2 : Int), v3 = .string x3_2 ∧ v7 = .int .i64 x7_2 ∧ Aside0 (spec_l3Pack.l1 kq a0 x3_2 x4_1 wd1 t101 x7_2 = some r) ∧ Aside0 (kq ≤ k1) ∧ Aside0 (Below w.heap.size w w'))
                case atStart => exact ⟨(x3_1 ++ (strOfNums y102)), (0), (by first | rfl | (simp; done) | (simp [*]; done)), (by first | rfl | (simp; done) | (simp [*]; done)), H', ⟨Nat.le_refl _⟩, ⟨by repeat (first | (with_reducible first | exact HB.out | apply below_alloc | apply pw_below_drewN | apply below_drew1) | exact HB.out)⟩⟩
                case round =>
                  clear H'
                  try clear hcv1
                  try clear c2
                  try clear c2b0
                  try clear p2
                  try clear c3
                  try clear c3b0
                  try clear c3b1
                  try clear c4
                  try clear c4b0
                  try clear c4b1
                  try clear c5
                  try clear c5b0
                  try clear c5b1
                  try clear p6
                  try clear c7
                  try clear c7b0
                  try clear c7b1
                  try clear c7b2
                  try clear hcv10
                  obtain ⟨x3_2, x7_2, rfl, rfl, HA, HK2, HB⟩ := hrel
                  cases gk with
                  | zero => exact absurd HA.out (by simp [spec_l3Pack.l1])
                  | succ k2 =>
                    have H := HA.out
                    clear HA
                    simp only [spec_l3Pack.l1] at H
                    by_cases c11 : x7_2 < 8
                    · rw [if_pos c11] at H
                      have c11b0 : decide (x7_2 < 8) = true := decide_eq_true c11
                      clear c11
                      by_cases c12 : 0 ≤ x7_2
                      · rw [if_pos c12] at H
                        have c12b0 : decide (0 ≤ x7_2) = true := decide_eq_true c12
                        clear c12
                        by_cases c13 : x7_2 < (wd1.size : Int)
                        · rw [if_pos c13] at H
                          have c13b0 : decide (x7_2 < (wd1.size : Int)) = true := decide_eq_true c13
                          clear c13
                          by_cases c15 : (bt wd1 x7_2) = 0
                          · rw [if_pos c15] at H
                            have c15b0 : ((bt wd1 x7_2) == 0) = true := beq_iff_eq.mpr c15
                            have c15b1 : ((bt wd1 x7_2) != 0) = false := bne_eq_false_iff_eq.mpr c15
                            clear c15
                            have H' := Aside0.mk H
                            clear H
                            have p14 : 0 ≤ (x7_2 : Int) := of_decide_eq_true (by first | (with_reducible assumption) | assumption)
                            have q14 : x7_2 < (wd1.size : Int) := of_decide_eq_true (by first | (with_reducible assumption) | assumption)
                            have hx14 := bt_at wd1 x7_2
                            replace p14 := eq_true p14
                            replace q14 := eq_true q14
                            go_wp2
                            go_roundg k2
                            case measure => have := HK1.out; have := HK2.out; omega
                            case rel => exact ⟨(x3_2), (wrap64 (x7_2 + 1)), (by first | rfl | (simp; done) | (simp [*]; done)), (by first | rfl | (simp; done) | (simp [*]; done)), H', ⟨by have := HK1.out; have := HK2.out; omega⟩, ⟨by repeat (first | (with_reducible first | exact HB.out | apply below_alloc | apply pw_below_drewN | apply below_drew1) | exact HB.out)⟩⟩
                          · rw [if_neg c15] at H
                            have c15b0 : ((bt wd1 x7_2) == 0) = false := beq_eq_false_iff_ne.mpr c15
                            have c15b1 : ((bt wd1 x7_2) != 0) = true := bne_iff_ne.mpr c15
                            have c16b0 := eq_true (of_decide_eq_true (by first | (with_reducible assumption) | assumption) : 0 ≤ x7_2)
                            by_cases c17 : x7_2 ≤ (wrap64 (x7_2 + 1))
                            · rw [if_pos c17] at H
                              have c17b0 := eq_true c17
                              have c17b1 : decide (x7_2 ≤ (wrap64 (x7_2 + 1))) = true := decide_eq_true c17
                              by_cases c18 : (wrap64 (x7_2 + 1)) ≤ (wd1.size : Int)
                              · rw [if_pos c18] at H
                                have c18b0 := eq_true c18
                                have c18b1 : decide ((wrap64 (x7_2 + 1)) ≤ (wd1.size : Int)) = true := decide_eq_true c18
                                by_cases c19 : x3_2.size + (wd1.extract (x7_2 : Int).toNat ((wrap64 (x7_2 + 1)) : Int).toNat).size ≤ 9223372036854775807
                                · rw [if_pos c19] at H
                                  have c19b0 := eq_true c19
                                  have c19b1 : decide (x3_2.size + (wd1.extract (x7_2 : Int).toNat ((wrap64 (x7_2 + 1)) : Int).toNat).size ≤ 9223372036854775807) = true := decide_eq_true c19
                                  try have c19b2 : (9223372036854775807 < x3_2.size + (wd1.extract (x7_2 : Int).toNat ((wrap64 (x7_2 + 1)) : Int).toNat).size) = False := eq_false (Nat.not_lt.2 c19)
                                  have H' := Aside0.mk H
                                  clear H
                                  have p14 : 0 ≤ (x7_2 : Int) := of_decide_eq_true (by first | (with_reducible assumption) | assumption)
                                  have q14 : x7_2 < (wd1.size : Int) := of_decide_eq_true (by first | (with_reducible assumption) | assumption)
                                  have hx14 := bt_at wd1 x7_2
                                  replace p14 := eq_true p14
                                  replace q14 := eq_true q14
                                  go_wp2
                                  go_roundg k2
                                  case measure => have := HK1.out; have := HK2.out; omega
                                  case rel => exact ⟨(x3_2 ++ (wd1.extract (x7_2 : Int).toNat ((wrap64 (x7_2 + 1)) : Int).toNat)), (wrap64 (x7_2 + 1)), (by first | rfl | (simp; done) | (simp [*]; done)), (by first | rfl | (simp; done) | (simp [*]; done)), H', ⟨by have := HK1.out; have := HK2.out; omega⟩, ⟨by repeat (first | (with_reducible first | exact HB.out | apply below_alloc | apply pw_below_drewN | apply below_drew1) | exact HB.out)⟩⟩
                                · rw [if_neg c19] at H
                                  exact absurd H (by simp)
                              · rw [if_neg c18] at H
                                exact absurd H (by simp)
                            · rw [if_neg c17] at H
                              exact absurd H (by simp)
                        · rw [if_neg c13] at H
                          exact absurd H (by simp)
                      · rw [if_neg c12] at H
                        exact absurd H (by simp)
                    · rw [if_neg c11] at H
                      have c11b0 : decide (x7_2 < 8) = false := decide_eq_false c11
                      clear c11
                      have HC20 := Aside0.mk H
                      clear H
                      go_upto_if 44 with (fail)
                      go_cut [3, 8, 44] (fun v3 v8 _ wc => ∃ (kq : Nat) (x3_19 : ByteArray) (x8_19 : Int), v3 = .string x3_19 ∧ v8 = .int .i64 x8_19 ∧ Aside0 (spec_l3Pack.j3 kq a0 x3_19 x4_1 t101 x8_19 = some r) ∧ Aside0 (kq ≤ k2) ∧ Aside0 (Below w.heap.size w wc))
                      case first =>
                        have H := HC20.out
                        clear HC20
                        by_cases c21 : t101 = 0
                        · rw [if_pos c21] at H
                          have c21b0 : (t101 == 0) = true := beq_iff_eq.mpr c21
                          have c21b1 : (t101 != 0) = false := bne_eq_false_iff_eq.mpr c21
                          clear c21
                          (first | rw [c21b0] | (simp only [i64_w, i32_w]; rw [c21b0]) | skip)
                          have H' := Aside0.mk H
                          clear H
                          go_wp2
                          go_loopg [8] k2 (fun kq v8 w' => ∃ (x8_3 : Int), v8 = .int .i64 x8_3 ∧ Aside0 (spec_l3Pack.l2 kq a0 x3_2 x4_1 t101 x8_3 = some r) ∧ Aside0 (kq ≤ k2) ∧ Aside0 (Below w.heap.size w w'))
                          case atStart => exact ⟨(0), (by first | rfl | (simp; done) | (simp [*]; done)), H', ⟨Nat.le_refl _⟩, ⟨by repeat (first | (with_reducible first | exact HB.out | apply below_alloc | apply pw_below_drewN | apply below_drew1) | exact HB.out)⟩⟩
                          case round =>
                            clear H'
                            try clear c1
                            try clear p1
                            try clear q1
                            try clear hx1
                            try clear hcv1
                            try clear c2
                            try clear c2b0
                            try clear p2
                            try clear c3
                            try clear c3b0
                            try clear c3b1
                            try clear c4
                            try clear c4b0
                            try clear c4b1
                            try clear c5
                            try clear c5b0
                            try clear c5b1
                            try clear p6
                            try clear c7
                            try clear c7b0
                            try clear c7b1
                            try clear c7b2
                            try clear hcv10
                            try clear c11
                            try clear c11b0
                            try clear c12
                            try clear c12b0
                            try clear c13
                            try clear c13b0
                            try clear p14
                            try clear q14
                            try clear hx14
                            try clear c15
                            try clear c15b0
                            try clear c15b1
                            try clear c16
                            try clear c16b0
                            try clear c17
                            try clear c17b0
                            try clear c17b1
                            try clear c18
                            try clear c18b0
                            try clear c18b1
                            try clear c19
                            try clear c19b0
                            try clear c19b1
                            try clear c19b2
                            try clear c21
                            try clear c21b0
                            try clear c21b1
                            try clear p14
                            try clear p2
                            try clear p6
                            try clear q14
                            obtain ⟨x8_3, rfl, HA, HK3, HB⟩ := hrel
                            cases gk with
                            | zero => exact absurd HA.out (by simp [spec_l3Pack.l2])
                            | succ k3 =>
                              have H := HA.out
                              clear HA
                              simp only [spec_l3Pack.l2] at H
                              by_cases c22 : x8_3 < 255
                              · rw [if_pos c22] at H
                                have c22b0 : decide (x8_3 < 255) = true := decide_eq_true c22
                                clear c22
                                by_cases c23 : (wrap64 (x4_1 + (wrap64 (8 * (wrap64 (x8_3 + 1)))))) < (a0.size : Int)
                                · rw [if_pos c23] at H
                                  have c23b0 : decide ((wrap64 (x4_1 + (wrap64 (8 * (wrap64 (x8_3 + 1)))))) < (a0.size : Int)) = true := decide_eq_true c23
                                  clear c23
                                  obtain ⟨ji24, hji24⟩ : ∃ j_ : Int, (wrap64 (x4_1 + (wrap64 (8 * (wrap64 (x8_3 + 1)))))) = j_ := ⟨_, rfl⟩
                                  replace H : (if 0 ≤ (ji24) then (if (ji24) ≤ (wrap64 (x4_1 + (wrap64 (8 * (wrap64 (x8_3 + 2)))))) then (if (wrap64 (x4_1 + (wrap64 (8 * (wrap64 (x8_3 + 2)))))) ≤ (a0.size : Int) then ((spec_l1Zero.f k3 (a0.extract ((ji24) : Int).toNat ((wrap64 (x4_1 + (wrap64 (8 * (wrap64 (x8_3 + 2)))))) : Int).toNat)).bind fun t105 => (if t105 = true then (spec_l3Pack.l2 k3 a0 x3_2 x4_1 t101 (wrap64 (x8_3 + 1))) else ((some (([(x8_3) % 256] : List Int) : List Int)).bind fun y106 => (if x3_2.size + (strOfNums y106).size ≤ 9223372036854775807 then (spec_l3Pack.j3 k3 a0 (x3_2 ++ (strOfNums y106)) x4_1 t101 x8_3) else (none))))) else (none)) else (none)) else (none)) = some r := by first | (rw [hji24] at H; exact H) | (simp only [hji24] at H ⊢; exact H)
                                  (try rw [hji24] at c23b0)
                                  have hji24w : (IntKind.i64.wrap (x4_1 + (wrap64 (8 * (wrap64 (x8_3 + 1)))))) = ji24 := (i64_w _).trans hji24
                                  by_cases c25 : 0 ≤ (ji24)
                                  · rw [if_pos c25] at H
                                    have c25b0 := eq_true c25
                                    have c25b1 : decide (0 ≤ (ji24)) = true := decide_eq_true c25
                                    clear c25
                                    by_cases c26 : (ji24) ≤ (wrap64 (x4_1 + (wrap64 (8 * (wrap64 (x8_3 + 2))))))
                                    · rw [if_pos c26] at H
                                      have c26b0 := eq_true c26
                                      have c26b1 : decide ((ji24) ≤ (wrap64 (x4_1 + (wrap64 (8 * (wrap64 (x8_3 + 2))))))) = true := decide_eq_true c26
                                      by_cases c27 : (wrap64 (x4_1 + (wrap64 (8 * (wrap64 (x8_3 + 2)))))) ≤ (a0.size : Int)
                                      · rw [if_pos c27] at H
                                        have c27b0 := eq_true c27
                                        have c27b1 : decide ((wrap64 (x4_1 + (wrap64 (8 * (wrap64 (x8_3 + 2)))))) ≤ (a0.size : Int)) = true := decide_eq_true c27
                                        replace H := Option.bind_eq_some_iff.mp H
                                        obtain ⟨t105, A280, H⟩ := H
                                        replace H : (if t105 = true then (spec_l3Pack.l2 k3 a0 x3_2 x4_1 t101 (wrap64 (x8_3 + 1))) else ((some (([(x8_3) % 256] : List Int) : List Int)).bind fun y106 => (if x3_2.size + (strOfNums y106).size ≤ 9223372036854775807 then (spec_l3Pack.j3 k3 a0 (x3_2 ++ (strOfNums y106)) x4_1 t101 x8_3) else (none)))) = some r := H
                                        have A28 := Aside0.mk A280
                                        clear A280
                                        by_cases c29 : t105 = true
                                        · subst c29
                                          have H1 : (spec_l3Pack.l2 k3 a0 x3_2 x4_1 t101 (wrap64 (x8_3 + 1))) = some r := by rw [if_pos rfl] at H; exact H
                                          clear H
                                          have H := H1
                                          clear H1
                                          have H' := Aside0.mk H
                                          clear H
                                          go_wp2_with (first | (go_at_call 51; (with_reducible refine (spec_l1Zero.calls k3 (a0.extract ((ji24) : Int).toNat ((wrap64 (x4_1 + (wrap64 (8 * (wrap64 (x8_3 + 2)))))) : Int).toNat) true _ A28.out).mono ?_); rintro e w' ⟨rfl, ⟨nd, rfl⟩⟩))
                                          go_roundg k3
                                          case measure => have := HK1.out; have := HK2.out; have := HK3.out; omega
                                          case rel => exact ⟨(wrap64 (x8_3 + 1)), (by first | rfl | (simp; done) | (simp [*]; done)), H', ⟨by have := HK1.out; have := HK2.out; have := HK3.out; omega⟩, ⟨by repeat (first | (with_reducible first | exact HB.out | apply below_alloc | apply pw_below_drewN | apply below_drew1) | exact HB.out)⟩⟩
                                        · replace c29 := Bool.eq_false_iff.mpr c29
                                          subst c29
                                          have H1 : ((some (([(x8_3) % 256] : List Int) : List Int)).bind fun y106 => (if x3_2.size + (strOfNums y106).size ≤ 9223372036854775807 then (spec_l3Pack.j3 k3 a0 (x3_2 ++ (strOfNums y106)) x4_1 t101 x8_3) else (none))) = some r := by rw [if_neg (show ¬ (false = true) by decide)] at H; exact H
                                          clear H
                                          have H := H1
                                          clear H1
                                          obtain ⟨y106, hy106⟩ : ∃ y_ : List Int, y_ = (([(x8_3) % 256] : List Int)) := ⟨_, rfl⟩
                                          replace H : (if x3_2.size + (strOfNums y106).size ≤ 9223372036854775807 then (spec_l3Pack.j3 k3 a0 (x3_2 ++ (strOfNums y106)) x4_1 t101 x8_3) else (none)) = some r := by first | (rw [hy106]; with_reducible exact H) | (have H2_ := (Option.bind_some _ _).symm.trans H; rw [hy106]; with_reducible exact H2_) | (have H2_ := (Option.bind_some _ _).symm.trans H; with_reducible exact H2_) | with_reducible exact H | (rw [hy106]; exact H) | exact H
                                          have Ny106 := Aside0.mk hy106
                                          clear hy106
                                          by_cases c30 : x3_2.size + (strOfNums y106).size ≤ 9223372036854775807
                                          · rw [if_pos c30] at H
                                            have c30b0 := eq_true c30
                                            have c30b1 : decide (x3_2.size + (strOfNums y106).size ≤ 9223372036854775807) = true := decide_eq_true c30
                                            try have c30b2 : (9223372036854775807 < x3_2.size + (strOfNums y106).size) = False := eq_false (Nat.not_lt.2 c30)
                                            have H' := Aside0.mk H
                                            clear H
                                            go_wp2_with (first | (go_at_call 51; (with_reducible refine (spec_l1Zero.calls k3 (a0.extract ((ji24) : Int).toNat ((wrap64 (x4_1 + (wrap64 (8 * (wrap64 (x8_3 + 2)))))) : Int).toNat) false _ A28.out).mono ?_); rintro e w' ⟨rfl, ⟨nd, rfl⟩⟩) | ((with_reducible refine gate_dst (N := 77) rfl ?_); refine Kd.R_lit (Kd.int .u8) _ 5 ?hg (N := 77) ?hd (xs := ([(x8_3) % 256] : List Int)) (inner := [.int .u8 ((x8_3) % 256)]) (ok := fun _ => True) (okp := fun _ => True) ?hr ?hp (fun _ hk => hk) trivial (Below.refl _ _) (Nat.le_refl _) (by simp) ?_; (case hd => rfl); (case hg => rfl); (case hr => first | (go_simp; done) | (go_simp; rfl)); (case hp => exact (Reps.one (show Kd.M (Kd.int .u8) _ _ _ ((x8_3) % 256) [.int .u8 ((x8_3) % 256)] from rfl) (Reps.none _ _))); intro v107 w31 ho32 hb hg_ hnew_; clear hg_ hnew_; (first | rw [← Ny106.out] at ho32 | (simp only [Int.reduceToNat] at ho32; rw [← Ny106.out] at ho32)); have n0_ := Aside0.mk (Kd.R_lower ho32 (below_size (by repeat (first | (with_reducible first | exact HB.out | apply below_alloc | apply pw_below_drewN | apply below_drew1) | exact HB.out)))); have n1_ := Aside0.mk (below_step (by repeat (first | (with_reducible first | exact HB.out | apply below_alloc | apply pw_below_drewN | apply below_drew1) | exact HB.out)) hb); clear HB; have HO108 := n0_; have HB := n1_; clear n0_ n1_; clear hb ho32; have hcv33 := own_string (P := Tryd.prog) Tryd.underlying24 Tryd.underlying5 Tryd.underlying9 (Kd.own_of_R HO108.out)))
                                            go_meet
                                            case rel => exact ⟨_, (x3_2 ++ (strOfNums y106)), (x8_3), (by first | rfl | (simp; done) | (simp [*]; done)), (by first | rfl | (simp; done) | (simp [*]; done)), H', ⟨by have := HK1.out; have := HK2.out; have := HK3.out; first | omega | exact Nat.le_refl _⟩, ⟨by repeat (first | (with_reducible first | exact HB.out | apply below_alloc | apply pw_below_drewN | apply below_drew1) | exact HB.out)⟩⟩
                                          · rw [if_neg c30] at H
                                            exact absurd H (by simp)
                                      · rw [if_neg c27] at H
                                        exact absurd H (by simp)
                                    · rw [if_neg c26] at H
                                      exact absurd H (by simp)
                                  · rw [if_neg c25] at H
                                    exact absurd H (by simp)
                                · rw [if_neg c23] at H
                                  have c23b0 : decide ((wrap64 (x4_1 + (wrap64 (8 * (wrap64 (x8_3 + 1)))))) < (a0.size : Int)) = false := decide_eq_false c23
                                  clear c23
                                  obtain ⟨y109, hy109⟩ : ∃ y_ : List Int, y_ = (([(x8_3) % 256] : List Int)) := ⟨_, rfl⟩
                                  replace H : (if x3_2.size + (strOfNums y109).size ≤ 9223372036854775807 then (spec_l3Pack.j3 k3 a0 (x3_2 ++ (strOfNums y109)) x4_1 t101 x8_3) else (none)) = some r := by first | (rw [hy109]; with_reducible exact H) | (have H2_ := (Option.bind_some _ _).symm.trans H; rw [hy109]; with_reducible exact H2_) | (have H2_ := (Option.bind_some _ _).symm.trans H; with_reducible exact H2_) | with_reducible exact H | (rw [hy109]; exact H) | exact H
                                  have Ny109 := Aside0.mk hy109
                                  clear hy109
                                  by_cases c34 : x3_2.size + (strOfNums y109).size ≤ 9223372036854775807
                                  · rw [if_pos c34] at H
                                    have c34b0 := eq_true c34
                                    have c34b1 : decide (x3_2.size + (strOfNums y109).size ≤ 9223372036854775807) = true := decide_eq_true c34
                                    try have c34b2 : (9223372036854775807 < x3_2.size + (strOfNums y109).size) = False := eq_false (Nat.not_lt.2 c34)
                                    have H' := Aside0.mk H
                                    clear H
                                    go_wp2_with (first | ((with_reducible refine gate_dst (N := 77) rfl ?_); refine Kd.R_lit (Kd.int .u8) _ 5 ?hg (N := 77) ?hd (xs := ([(x8_3) % 256] : List Int)) (inner := [.int .u8 ((x8_3) % 256)]) (ok := fun _ => True) (okp := fun _ => True) ?hr ?hp (fun _ hk => hk) trivial (Below.refl _ _) (Nat.le_refl _) (by simp) ?_; (case hd => rfl); (case hg => rfl); (case hr => first | (go_simp; done) | (go_simp; rfl)); (case hp => exact (Reps.one (show Kd.M (Kd.int .u8) _ _ _ ((x8_3) % 256) [.int .u8 ((x8_3) % 256)] from rfl) (Reps.none _ _))); intro v110 w35 ho36 hb hg_ hnew_; clear hg_ hnew_; (first | rw [← Ny109.out] at ho36 | (simp only [Int.reduceToNat] at ho36; rw [← Ny109.out] at ho36)); have n0_ := Aside0.mk (Kd.R_lower ho36 (below_size (by repeat (first | (with_reducible first | exact HB.out | apply below_alloc | apply pw_below_drewN | apply below_drew1) | exact HB.out)))); have n1_ := Aside0.mk (below_step (by repeat (first | (with_reducible first | exact HB.out | apply below_alloc | apply pw_below_drewN | apply below_drew1) | exact HB.out)) hb); clear HB; have HO111 := n0_; have HB := n1_; clear n0_ n1_; clear hb ho36; have hcv37 := own_string (P := Tryd.prog) Tryd.underlying24 Tryd.underlying5 Tryd.underlying9 (Kd.own_of_R HO111.out)))
                                    go_meet
                                    case rel => exact ⟨_, (x3_2 ++ (strOfNums y109)), (x8_3), (by first | rfl | (simp; done) | (simp [*]; done)), (by first | rfl | (simp; done) | (simp [*]; done)), H', ⟨by have := HK1.out; have := HK2.out; have := HK3.out; first | omega | exact Nat.le_refl _⟩, ⟨by repeat (first | (with_reducible first | exact HB.out | apply below_alloc | apply pw_below_drewN | apply below_drew1) | exact HB.out)⟩⟩
                                  · rw [if_neg c34] at H
                                    exact absurd H (by simp)
                              · rw [if_neg c22] at H
                                have c22b0 : decide (x8_3 < 255) = false := decide_eq_false c22
                                clear c22
                                obtain ⟨y112, hy112⟩ : ∃ y_ : List Int, y_ = (([(x8_3) % 256] : List Int)) := ⟨_, rfl⟩
                                replace H : (if x3_2.size + (strOfNums y112).size ≤ 9223372036854775807 then (spec_l3Pack.j3 k3 a0 (x3_2 ++ (strOfNums y112)) x4_1 t101 x8_3) else (none)) = some r := by first | (rw [hy112]; with_reducible exact H) | (have H2_ := (Option.bind_some _ _).symm.trans H; rw [hy112]; with_reducible exact H2_) | (have H2_ := (Option.bind_some _ _).symm.trans H; with_reducible exact H2_) | with_reducible exact H | (rw [hy112]; exact H) | exact H
                                have Ny112 := Aside0.mk hy112
                                clear hy112
                                by_cases c38 : x3_2.size + (strOfNums y112).size ≤ 9223372036854775807
                                · rw [if_pos c38] at H
                                  have c38b0 := eq_true c38
                                  have c38b1 : decide (x3_2.size + (strOfNums y112).size ≤ 9223372036854775807) = true := decide_eq_true c38
                                  try have c38b2 : (9223372036854775807 < x3_2.size + (strOfNums y112).size) = False := eq_false (Nat.not_lt.2 c38)
                                  have H' := Aside0.mk H
                                  clear H
                                  go_wp2_with (first | ((with_reducible refine gate_dst (N := 77) rfl ?_); refine Kd.R_lit (Kd.int .u8) _ 5 ?hg (N := 77) ?hd (xs := ([(x8_3) % 256] : List Int)) (inner := [.int .u8 ((x8_3) % 256)]) (ok := fun _ => True) (okp := fun _ => True) ?hr ?hp (fun _ hk => hk) trivial (Below.refl _ _) (Nat.le_refl _) (by simp) ?_; (case hd => rfl); (case hg => rfl); (case hr => first | (go_simp; done) | (go_simp; rfl)); (case hp => exact (Reps.one (show Kd.M (Kd.int .u8) _ _ _ ((x8_3) % 256) [.int .u8 ((x8_3) % 256)] from rfl) (Reps.none _ _))); intro v113 w39 ho40 hb hg_ hnew_; clear hg_ hnew_; (first | rw [← Ny112.out] at ho40 | (simp only [Int.reduceToNat] at ho40; rw [← Ny112.out] at ho40)); have n0_ := Aside0.mk (Kd.R_lower ho40 (below_size (by repeat (first | (with_reducible first | exact HB.out | apply below_alloc | apply pw_below_drewN | apply below_drew1) | exact HB.out)))); have n1_ := Aside0.mk (below_step (by repeat (first | (with_reducible first | exact HB.out | apply below_alloc | apply pw_below_drewN | apply below_drew1) | exact HB.out)) hb); clear HB; have HO114 := n0_; have HB := n1_; clear n0_ n1_; clear hb ho40; have hcv41 := own_string (P := Tryd.prog) Tryd.underlying24 Tryd.underlying5 Tryd.underlying9 (Kd.own_of_R HO114.out)))
                                  go_meet
                                  case rel => exact ⟨_, (x3_2 ++ (strOfNums y112)), (x8_3), (by first | rfl | (simp; done) | (simp [*]; done)), (by first | rfl | (simp; done) | (simp [*]; done)), H', ⟨by have := HK1.out; have := HK2.out; have := HK3.out; first | omega | exact Nat.le_refl _⟩, ⟨by repeat (first | (with_reducible first | exact HB.out | apply below_alloc | apply pw_below_drewN | apply below_drew1) | exact HB.out)⟩⟩
                                · rw [if_neg c38] at H
                                  exact absurd H (by simp)
                        · rw [if_neg c21] at H
                          have c21b0 : (t101 == 0) = false := beq_eq_false_iff_ne.mpr c21
                          have c21b1 : (t101 != 0) = true := bne_iff_ne.mpr c21
                          (first | rw [c21b0] | (simp only [i64_w, i32_w]; rw [c21b0]) | skip)
                          have H' := Aside0.mk H
                          clear H
                          go_wp2
                          go_meet
                          case rel => exact ⟨_, (x3_2), (0), (by first | rfl | (simp; done) | (simp [*]; done)), (by first | rfl | (simp; done) | (simp [*]; done)), H', ⟨by have := HK1.out; have := HK2.out; first | omega | exact Nat.le_refl _⟩, ⟨by repeat (first | (with_reducible first | exact HB.out | apply below_alloc | apply pw_below_drewN | apply below_drew1) | exact HB.out)⟩⟩
                      case rest =>
                        clear HC20
                        try clear c1
                        try clear p1
                        try clear q1
                        try clear hx1
                        try clear hcv1
                        try clear c2
                        try clear c2b0
                        try clear p2
                        try clear c3
                        try clear c3b0
                        try clear c3b1
                        try clear hcv3
                        try clear c4
                        try clear c4b0
                        try clear c4b1
                        try clear hcv4
                        try clear c5
                        try clear c5b0
                        try clear c5b1
                        try clear p6
                        try clear c7
                        try clear c7b0
                        try clear c7b1
                        try clear c7b2
                        try clear hcv10
                        try clear c11
                        try clear c11b0
                        try clear c12
                        try clear c12b0
                        try clear c13
                        try clear c13b0
                        try clear p14
                        try clear q14
                        try clear hx14
                        try clear c15
                        try clear c15b0
                        try clear c15b1
                        try clear c16
                        try clear c16b0
                        try clear c17
                        try clear c17b0
                        try clear c17b1
                        try clear c18
                        try clear c18b0
                        try clear c18b1
                        try clear c19
                        try clear c19b0
                        try clear c19b1
                        try clear c19b2
                        try clear c21
                        try clear c21b0
                        try clear c21b1
                        try clear c22
                        try clear c22b0
                        try clear c23
                        try clear c23b0
                        try clear c25
                        try clear c25b0
                        try clear c25b1
                        try clear c26
                        try clear c26b0
                        try clear c26b1
                        try clear c27
                        try clear c27b0
                        try clear c27b1
                        try clear c28
                        try clear c29
                        try clear c30
                        try clear c30b0
                        try clear c30b1
                        try clear c30b2
                        try clear hcv33
                        try clear c34
                        try clear c34b0
                        try clear c34b1
                        try clear c34b2
                        try clear hcv37
                        try clear c38
                        try clear c38b0
                        try clear c38b1
                        try clear c38b2
                        try clear hcv41
                        try clear p1
                        try clear p14
                        try clear p2
                        try clear p6
                        try clear q1
                        try clear q14
                        obtain ⟨kq, x3_19, x8_19, rfl, rfl, HA, HJ19, HB⟩ := hcut
                        cases kq with
                        | zero => exact absurd HA.out (by simp [spec_l3Pack.j3])
                        | succ kj19 =>
                          have H := HA.out
                          clear HA
                          simp only [spec_l3Pack.j3] at H
                          by_cases c42 : t101 = 255
                          · rw [if_pos c42] at H
                            have c42b0 : (t101 == 255) = true := beq_iff_eq.mpr c42
                            have c42b1 : (t101 != 255) = false := bne_eq_false_iff_eq.mpr c42
                            clear c42
                            have H' := Aside0.mk H
                            clear H
                            go_wp2
                            go_loopg [8] kj19 (fun kq v8 w' => ∃ (x8_4 : Int), v8 = .int .i64 x8_4 ∧ Aside0 (spec_l3Pack.l3 kq a0 x3_19 x4_1 x8_4 = some r) ∧ Aside0 (kq ≤ kj19) ∧ Aside0 (Below w.heap.size w w'))
                            case atStart => exact ⟨(x8_19), (by first | rfl | (simp; done) | (simp [*]; done)), H', ⟨Nat.le_refl _⟩, ⟨by repeat (first | (with_reducible first | exact HB.out | apply below_alloc | apply pw_below_drewN | apply below_drew1) | exact HB.out)⟩⟩
                            case round =>
                              clear H'
                              try clear c1
                              try clear p1
                              try clear q1
                              try clear hx1
                              try clear hcv1
                              try clear c2
                              try clear c2b0
                              try clear p2
                              try clear c3
                              try clear c3b0
                              try clear c3b1
                              try clear hcv3
                              try clear c4
                              try clear c4b0
                              try clear c4b1
                              try clear hcv4
                              try clear c5
                              try clear c5b0
                              try clear c5b1
                              try clear p6
                              try clear c7
                              try clear c7b0
                              try clear c7b1
                              try clear c7b2
                              try clear hcv10
                              try clear c11
                              try clear c11b0
                              try clear c12
                              try clear c12b0
                              try clear c13
                              try clear c13b0
                              try clear p14
                              try clear q14
                              try clear hx14
                              try clear c15
                              try clear c15b0
                              try clear c15b1
                              try clear c16
                              try clear c16b0
                              try clear c17
                              try clear c17b0
                              try clear c17b1
                              try clear c18
                              try clear c18b0
                              try clear c18b1
                              try clear c19
                              try clear c19b0
                              try clear c19b1
                              try clear c19b2
                              try clear c21
                              try clear c21b0
                              try clear c21b1
                              try clear c22
                              try clear c22b0
                              try clear c23
                              try clear c23b0
                              try clear c25
                              try clear c25b0
                              try clear c25b1
                              try clear c26
                              try clear c26b0
                              try clear c26b1
                              try clear c27
                              try clear c27b0
                              try clear c27b1
                              try clear c28
                              try clear c29
                              try clear c30
                              try clear c30b0
                              try clear c30b1
                              try clear c30b2
                              try clear hcv33
                              try clear c34
                              try clear c34b0
                              try clear c34b1
                              try clear c34b2
                              try clear hcv37
                              try clear c38
                              try clear c38b0
                              try clear c38b1
                              try clear c38b2
                              try clear hcv41
                              try clear c42
                              try clear c42b0
                              try clear c42b1
                              try clear p1
                              try clear p14
                              try clear p2
                              try clear p6
                              try clear q1
                              try clear q14
                              obtain ⟨x8_4, rfl, HA, HK4, HB⟩ := hrel
                              cases gk with
                              | zero => exact absurd HA.out (by simp [spec_l3Pack.l3])
                              | succ k4 =>
                                have H := HA.out
                                clear HA
                                simp only [spec_l3Pack.l3] at H
                                by_cases c43 : x8_4 < 255
                                · rw [if_pos c43] at H
                                  have c43b0 : decide (x8_4 < 255) = true := decide_eq_true c43
                                  clear c43
                                  by_cases c44 : (wrap64 (x4_1 + (wrap64 (8 * (wrap64 (x8_4 + 1)))))) < (a0.size : Int)
                                  · rw [if_pos c44] at H
                                    have c44b0 : decide ((wrap64 (x4_1 + (wrap64 (8 * (wrap64 (x8_4 + 1)))))) < (a0.size : Int)) = true := decide_eq_true c44
                                    clear c44
                                    obtain ⟨ji45, hji45⟩ : ∃ j_ : Int, (wrap64 (x4_1 + (wrap64 (8 * (wrap64 (x8_4 + 1)))))) = j_ := ⟨_, rfl⟩
                                    replace H : (if 0 ≤ (ji45) then (if (ji45) ≤ (wrap64 (x4_1 + (wrap64 (8 * (wrap64 (x8_4 + 2)))))) then (if (wrap64 (x4_1 + (wrap64 (8 * (wrap64 (x8_4 + 2)))))) ≤ (a0.size : Int) then ((spec_l3Few.f k4 (a0.extract ((ji45) : Int).toNat ((wrap64 (x4_1 + (wrap64 (8 * (wrap64 (x8_4 + 2)))))) : Int).toNat)).bind fun t115 => (if t115 = true then ((some (([(x8_4) % 256] : List Int) : List Int)).bind fun y116 => (if x3_19.size + (strOfNums y116).size ≤ 9223372036854775807 then (if 0 ≤ (wrap64 (x4_1 + 8)) then (if (wrap64 (x4_1 + 8)) ≤ (ji45) then (if (ji45) ≤ (a0.size : Int) then (if (x3_19 ++ (strOfNums y116)).size + (a0.extract ((wrap64 (x4_1 + 8)) : Int).toNat ((ji45) : Int).toNat).size ≤ 9223372036854775807 then (spec_l3Pack.l0 k4 a0 ((x3_19 ++ (strOfNums y116)) ++ (a0.extract ((wrap64 (x4_1 + 8)) : Int).toNat ((ji45) : Int).toNat)) (wrap64 ((wrap64 (x4_1 + (wrap64 (8 * x8_4)))) + 8))) else (none)) else (none)) else (none)) else (none)) else (none))) else (spec_l3Pack.l3 k4 a0 x3_19 x4_1 (wrap64 (x8_4 + 1))))) else (none)) else (none)) else (none)) = some r := by first | (rw [hji45] at H; exact H) | (simp only [hji45] at H ⊢; exact H)
                                    (try rw [hji45] at c44b0)
                                    have hji45w : (IntKind.i64.wrap (x4_1 + (wrap64 (8 * (wrap64 (x8_4 + 1)))))) = ji45 := (i64_w _).trans hji45
                                    by_cases c46 : 0 ≤ (ji45)
                                    · rw [if_pos c46] at H
                                      have c46b0 := eq_true c46
                                      have c46b1 : decide (0 ≤ (ji45)) = true := decide_eq_true c46
                                      clear c46
                                      by_cases c47 : (ji45) ≤ (wrap64 (x4_1 + (wrap64 (8 * (wrap64 (x8_4 + 2))))))
                                      · rw [if_pos c47] at H
                                        have c47b0 := eq_true c47
                                        have c47b1 : decide ((ji45) ≤ (wrap64 (x4_1 + (wrap64 (8 * (wrap64 (x8_4 + 2))))))) = true := decide_eq_true c47
                                        by_cases c48 : (wrap64 (x4_1 + (wrap64 (8 * (wrap64 (x8_4 + 2)))))) ≤ (a0.size : Int)
                                        · rw [if_pos c48] at H
                                          have c48b0 := eq_true c48
                                          have c48b1 : decide ((wrap64 (x4_1 + (wrap64 (8 * (wrap64 (x8_4 + 2)))))) ≤ (a0.size : Int)) = true := decide_eq_true c48
                                          replace H := Option.bind_eq_some_iff.mp H
                                          obtain ⟨t115, A490, H⟩ := H
                                          replace H : (if t115 = true then ((some (([(x8_4) % 256] : List Int) : List Int)).bind fun y116 => (if x3_19.size + (strOfNums y116).size ≤ 9223372036854775807 then (if 0 ≤ (wrap64 (x4_1 + 8)) then (if (wrap64 (x4_1 + 8)) ≤ (ji45) then (if (ji45) ≤ (a0.size : Int) then (if (x3_19 ++ (strOfNums y116)).size + (a0.extract ((wrap64 (x4_1 + 8)) : Int).toNat ((ji45) : Int).toNat).size ≤ 9223372036854775807 then (spec_l3Pack.l0 k4 a0 ((x3_19 ++ (strOfNums y116)) ++ (a0.extract ((wrap64 (x4_1 + 8)) : Int).toNat ((ji45) : Int).toNat)) (wrap64 ((wrap64 (x4_1 + (wrap64 (8 * x8_4)))) + 8))) else (none)) else (none)) else (none)) else (none)) else (none))) else (spec_l3Pack.l3 k4 a0 x3_19 x4_1 (wrap64 (x8_4 + 1)))) = some r := H
                                          have A49 := Aside0.mk A490
                                          clear A490
                                          by_cases c50 : t115 = true
                                          · subst c50
                                            have H1 : ((some (([(x8_4) % 256] : List Int) : List Int)).bind fun y116 => (if x3_19.size + (strOfNums y116).size ≤ 9223372036854775807 then (if 0 ≤ (wrap64 (x4_1 + 8)) then (if (wrap64 (x4_1 + 8)) ≤ (ji45) then (if (ji45) ≤ (a0.size : Int) then (if (x3_19 ++ (strOfNums y116)).size + (a0.extract ((wrap64 (x4_1 + 8)) : Int).toNat ((ji45) : Int).toNat).size ≤ 9223372036854775807 then (spec_l3Pack.l0 k4 a0 ((x3_19 ++ (strOfNums y116)) ++ (a0.extract ((wrap64 (x4_1 + 8)) : Int).toNat ((ji45) : Int).toNat)) (wrap64 ((wrap64 (x4_1 + (wrap64 (8 * x8_4)))) + 8))) else (none)) else (none)) else (none)) else (none)) else (none))) = some r := by rw [if_pos rfl] at H; exact H
                                            clear H
                                            have H := H1
                                            clear H1
                                            obtain ⟨y116, hy116⟩ : ∃ y_ : List Int, y_ = (([(x8_4) % 256] : List Int)) := ⟨_, rfl⟩
                                            replace H : (if x3_19.size + (strOfNums y116).size ≤ 9223372036854775807 then (if 0 ≤ (wrap64 (x4_1 + 8)) then (if (wrap64 (x4_1 + 8)) ≤ (ji45) then (if (ji45) ≤ (a0.size : Int) then (if (x3_19 ++ (strOfNums y116)).size + (a0.extract ((wrap64 (x4_1 + 8)) : Int).toNat ((ji45) : Int).toNat).size ≤ 9223372036854775807 then (spec_l3Pack.l0 k4 a0 ((x3_19 ++ (strOfNums y116)) ++ (a0.extract ((wrap64 (x4_1 + 8)) : Int).toNat ((ji45) : Int).toNat)) (wrap64 ((wrap64 (x4_1 + (wrap64 (8 * x8_4)))) + 8))) else (none)) else (none)) else (none)) else (none)) else (none)) = some r := by first | (rw [hy116]; with_reducible exact H) | (have H2_ := (Option.bind_some _ _).symm.trans H; rw [hy116]; with_reducible exact H2_) | (have H2_ := (Option.bind_some _ _).symm.trans H; with_reducible exact H2_) | with_reducible exact H | (rw [hy116]; exact H) | exact H
                                            have Ny116 := Aside0.mk hy116
                                            clear hy116
                                            by_cases c51 : x3_19.size + (strOfNums y116).size ≤ 9223372036854775807
                                            · rw [if_pos c51] at H
                                              have c51b0 := eq_true c51
                                              have c51b1 : decide (x3_19.size + (strOfNums y116).size ≤ 9223372036854775807) = true := decide_eq_true c51
                                              try have c51b2 : (9223372036854775807 < x3_19.size + (strOfNums y116).size) = False := eq_false (Nat.not_lt.2 c51)
                                              obtain ⟨ji52, hji52⟩ : ∃ j_ : Int, (wrap64 (x4_1 + 8)) = j_ := ⟨_, rfl⟩
                                              replace H : (if 0 ≤ (ji52) then (if (ji52) ≤ (ji45) then (if (ji45) ≤ (a0.size : Int) then (if (x3_19 ++ (strOfNums y116)).size + (a0.extract ((ji52) : Int).toNat ((ji45) : Int).toNat).size ≤ 9223372036854775807 then (spec_l3Pack.l0 k4 a0 ((x3_19 ++ (strOfNums y116)) ++ (a0.extract ((ji52) : Int).toNat ((ji45) : Int).toNat)) (wrap64 ((wrap64 (x4_1 + (wrap64 (8 * x8_4)))) + 8))) else (none)) else (none)) else (none)) else (none)) = some r := by first | (rw [hji52] at H; exact H) | (simp only [hji52] at H ⊢; exact H)
                                              (try rw [hji52] at c4b0)
                                              (try rw [hji52] at c4b1)
                                              (try rw [hji52] at c4)
                                              (try rw [hji52] at c5b0)
                                              (try rw [hji52] at c5b1)
                                              (try rw [hji52] at c5)
                                              (try rw [hji52] at A49)
                                              have hji52w : (IntKind.i64.wrap (x4_1 + 8)) = ji52 := (i64_w _).trans hji52
                                              by_cases c53 : 0 ≤ (ji52)
                                              · rw [if_pos c53] at H
                                                have c53b0 := eq_true c53
                                                have c53b1 : decide (0 ≤ (ji52)) = true := decide_eq_true c53
                                                clear c53
                                                by_cases c54 : (ji52) ≤ (ji45)
                                                · rw [if_pos c54] at H
                                                  have c54b0 := eq_true c54
                                                  have c54b1 : decide ((ji52) ≤ (ji45)) = true := decide_eq_true c54
                                                  clear c54
                                                  by_cases c55 : (ji45) ≤ (a0.size : Int)
                                                  · rw [if_pos c55] at H
                                                    have c55b0 := eq_true c55
                                                    have c55b1 : decide ((ji45) ≤ (a0.size : Int)) = true := decide_eq_true c55
                                                    clear c55
                                                    by_cases c56 : (x3_19 ++ (strOfNums y116)).size + (a0.extract ((ji52) : Int).toNat ((ji45) : Int).toNat).size ≤ 9223372036854775807
                                                    · rw [if_pos c56] at H
                                                      have c56b0 := eq_true c56
                                                      have c56b1 : decide ((x3_19 ++ (strOfNums y116)).size + (a0.extract ((ji52) : Int).toNat ((ji45) : Int).toNat).size ≤ 9223372036854775807) = true := decide_eq_true c56
                                                      try have c56b2 : (9223372036854775807 < (x3_19 ++ (strOfNums y116)).size + (a0.extract ((ji52) : Int).toNat ((ji45) : Int).toNat).size) = False := eq_false (Nat.not_lt.2 c56)
                                                      try have c56b3 : (9223372036854775807 < x3_19.size + (strOfNums y116).size + (((ji45) : Int).toNat - ((ji52) : Int).toNat)) = False := eq_false (by have q_ := c56; simp only [ByteArray.size_extract, ByteArray.size_append] at q_; (try simp only [decide_eq_true_eq, eq_iff_iff, iff_true] at *); omega)
                                                      have H' := Aside0.mk H
                                                      clear H
                                                      try go_wp2_with (first | (go_at_call 60; (with_reducible refine (spec_l3Few.calls k4 (a0.extract ((ji45) : Int).toNat ((wrap64 (x4_1 + (wrap64 (8 * (wrap64 (x8_4 + 2)))))) : Int).toNat) true _ A49.out).mono ?_); rintro e w' ⟨rfl, ⟨nd, rfl⟩⟩))
                                                      (try (rw [drewN_self wr]; generalize hq_ : World.drewN wr _ = wr; have n0_ : Aside0 (Below w.heap.size w wr) := ⟨by rw [← hq_]; exact (by repeat (first | (with_reducible first | exact HB.out | apply below_alloc | apply pw_below_drewN | apply below_drew1) | exact HB.out))⟩; clear HB hq_; have HB := n0_; clear n0_))
                                                      (try (rw [drewN_self wr]; generalize hq_ : World.drewN wr _ = wq_; have m0_ : Aside0 (Below w.heap.size w wq_) := ⟨by rw [← hq_]; exact pw_below_drewN HB.out _⟩; clear HB hq_; have HB := m0_; clear m0_))
                                                      have n0_ := Aside0.mk (below_drew1 HB.out)
                                                      clear HB
                                                      have HB := n0_
                                                      clear n0_
                                                      refine start_ (n := 17) (S := fun w' => True) (ds := []) #[false, false, false, false, false, false, false, false, false, false, false, false, false, false, false, false, false] (by kernel_rfl) rfl rfl trivial (fun hHeld => ?_); refine with_tabW spec_l3Pack.tab21 spec_l3Pack.bits21 (fun HT_ HW_ => ?_)
                                                      (first | generalize wq_.drew = w57 at HB hHeld ⊢ | generalize wr.drew = w57 at HB hHeld ⊢)
                                                      refine pure_ (i := 0) (N := some 112) (v := ?_) (a' := ?_) #[true, false, false, false, false, false, false, false, false, false, false, false, false, false, false, false, false] rfl rfl (any_of HT_.out (by kernel_rfl)) (fun _ _ _ h => h) (Or.inl ⟨by rfl, ?_⟩) ?_ ?_
                                                      rotate_left
                                                      · intro w'
                                                        go_simp
                                                        with_reducible rfl
                                                      rotate_left
                                                      · simp only [Act.put, List.setIfInBounds_toArray, List.set_cons_zero, List.set_cons_succ, i64_w, i32_w]
                                                        rfl
                                                      refine pure_ (i := 1) (N := some 113) (v := ?_) (a' := ?_) #[true, true, false, false, false, false, false, false, false, false, false, false, false, false, false, false, false] rfl rfl (any_of HT_.out (by kernel_rfl)) (fun _ _ _ h => h) (Or.inl ⟨by rfl, ?_⟩) ?_ ?_
                                                      rotate_left
                                                      · intro w'
                                                        go_simp
                                                        with_reducible rfl
                                                      rotate_left
                                                      · simp only [Act.put, List.setIfInBounds_toArray, List.set_cons_zero, List.set_cons_succ, i64_w, i32_w]
                                                        rfl
                                                      refine pure_ (i := 2) (N := some 114) (v := ?_) (a' := ?_) #[true, true, true, false, false, false, false, false, false, false, false, false, false, false, false, false, false] rfl rfl (any_of HT_.out (by kernel_rfl)) (fun _ _ _ h => h) (Or.inl ⟨by rfl, ?_⟩) ?_ ?_
                                                      rotate_left
                                                      · intro w'
                                                        go_simp
                                                        with_reducible rfl
                                                      rotate_left
                                                      · simp only [Act.put, List.setIfInBounds_toArray, List.set_cons_zero, List.set_cons_succ, i64_w, i32_w]
                                                        rfl
                                                      refine pure_ (i := 6) (N := some 118) (v := ?_) (a' := ?_) #[true, true, true, false, false, false, true, false, false, false, false, false, false, false, false, false, false] rfl rfl (any_of HT_.out (by kernel_rfl)) (fun _ _ _ h => h) (Or.inl ⟨by rfl, ?_⟩) ?_ ?_
                                                      rotate_left
                                                      · intro w'
                                                        go_simp
                                                        with_reducible rfl
                                                      rotate_left
                                                      · simp only [Act.put, List.setIfInBounds_toArray, List.set_cons_zero, List.set_cons_succ, i64_w, i32_w]
                                                        rfl
                                                      refine pure_ (i := 7) (N := some 119) (v := ?_) (a' := ?_) #[true, true, true, false, false, false, true, true, false, false, false, false, false, false, false, false, false] rfl rfl (any_of HT_.out (by kernel_rfl)) (fun _ _ _ h => h) (Or.inl ⟨by rfl, ?_⟩) ?_ ?_
                                                      rotate_left
                                                      · intro w'
                                                        go_simp
                                                        with_reducible rfl
                                                      rotate_left
                                                      · simp only [Act.put, List.setIfInBounds_toArray, List.set_cons_zero, List.set_cons_succ, i64_w, i32_w]
                                                        rfl
                                                      refine pure_ (i := 8) (N := some 120) (v := ?_) (a' := ?_) #[true, true, true, false, false, false, true, true, true, false, false, false, false, false, false, false, false] rfl rfl (any_of HT_.out (by kernel_rfl)) (fun _ _ _ h => h) (Or.inl ⟨by rfl, ?_⟩) ?_ ?_
                                                      rotate_left
                                                      · intro w'
                                                        go_simp
                                                        with_reducible rfl
                                                      rotate_left
                                                      · simp only [Act.put, List.setIfInBounds_toArray, List.set_cons_zero, List.set_cons_succ, i64_w, i32_w]
                                                        rfl
                                                      refine pure_ (i := 9) (N := some 121) (v := ?_) (a' := ?_) #[true, true, true, false, false, false, true, true, true, true, false, false, false, false, false, false, false] rfl rfl (any_of HT_.out (by kernel_rfl)) (fun _ _ _ h => h) (Or.inl ⟨by rfl, ?_⟩) ?_ ?_
                                                      rotate_left
                                                      · intro w'
                                                        go_simp
                                                        with_reducible rfl
                                                      rotate_left
                                                      · simp only [Act.put, List.setIfInBounds_toArray, List.set_cons_zero, List.set_cons_succ, i64_w, i32_w]
                                                        rfl
                                                      refine pure_ (i := 10) (N := some 122) (v := ?_) (a' := ?_) #[true, true, true, false, false, false, true, true, true, true, true, false, false, false, false, false, false] rfl rfl (any_of HT_.out (by kernel_rfl)) (fun _ _ _ h => h) (Or.inl ⟨by rfl, ?_⟩) ?_ ?_
                                                      rotate_left
                                                      · intro w'
                                                        go_simp
                                                        with_reducible rfl
                                                      rotate_left
                                                      · simp only [Act.put, List.setIfInBounds_toArray, List.set_cons_zero, List.set_cons_succ, i64_w, i32_w]
                                                        rfl
                                                      refine pure_ (i := 11) (N := some 123) (v := ?_) (a' := ?_) #[true, true, true, false, false, false, true, true, true, true, true, true, false, false, false, false, false] rfl rfl (any_of HT_.out (by kernel_rfl)) (fun _ _ _ h => h) (Or.inl ⟨by rfl, ?_⟩) ?_ ?_
                                                      rotate_left
                                                      · intro w'
                                                        go_simp
                                                        with_reducible rfl
                                                      rotate_left
                                                      · simp only [Act.put, List.setIfInBounds_toArray, List.set_cons_zero, List.set_cons_succ, i64_w, i32_w]
                                                        rfl
                                                      refine pure_ (i := 12) (N := some 124) (v := ?_) (a' := ?_) #[true, true, true, false, false, false, true, true, true, true, true, true, true, false, false, false, false] rfl rfl (any_of HT_.out (by kernel_rfl)) (fun _ _ _ h => h) (Or.inl ⟨by rfl, ?_⟩) ?_ ?_
                                                      rotate_left
                                                      · intro w'
                                                        go_simp
                                                        with_reducible rfl
                                                      rotate_left
                                                      · simp only [Act.put, List.setIfInBounds_toArray, List.set_cons_zero, List.set_cons_succ, i64_w, i32_w]
                                                        rfl
                                                      refine pure_ (i := 13) (N := some 125) (v := ?_) (a' := ?_) #[true, true, true, false, false, false, true, true, true, true, true, true, true, true, false, false, false] rfl rfl (any_of HT_.out (by kernel_rfl)) (fun _ _ _ h => h) (Or.inl ⟨by rfl, ?_⟩) ?_ ?_
                                                      rotate_left
                                                      · intro w'
                                                        go_simp
                                                        with_reducible rfl
                                                      rotate_left
                                                      · simp only [Act.put, List.setIfInBounds_toArray, List.set_cons_zero, List.set_cons_succ, i64_w, i32_w]
                                                        rfl
                                                      refine pure_ (i := 14) (N := some 126) (v := ?_) (a' := ?_) #[true, true, true, false, false, false, true, true, true, true, true, true, true, true, true, false, false] rfl rfl (any_of HT_.out (by kernel_rfl)) (fun _ _ _ h => h) (Or.inl ⟨by rfl, ?_⟩) ?_ ?_
                                                      rotate_left
                                                      · intro w'
                                                        go_simp
                                                        with_reducible rfl
                                                      rotate_left
                                                      · simp only [Act.put, List.setIfInBounds_toArray, List.set_cons_zero, List.set_cons_succ, i64_w, i32_w]
                                                        rfl
                                                      refine one_ (i := 3) (N := some 115) #[true, true, true, true, false, false, true, true, true, true, true, true, true, true, true, false, false] rfl rfl (one_of HT_.out (by kernel_rfl)) (by decide) (fun K hK => ?_)
                                                      refine Kd.R_lit_step (Kd.int .u8) _ 5 ?hg (N := 115) ?hd (xs := ([(x8_4) % 256] : List Int)) (inner := [.int .u8 ((x8_4) % 256)]) (ok := fun _ => True) (okp := fun _ => True) ?hr ?hp (fun _ hk => hk) trivial (Below.refl _ _) (Nat.le_refl _) (by simp) ?_; (case hd => rfl); (case hg => rfl); (case hr => first | (go_simp; done) | (go_simp; rfl)); (case hp => exact (Reps.one (show Kd.M (Kd.int .u8) _ _ _ ((x8_4) % 256) [.int .u8 ((x8_4) % 256)] from rfl) (Reps.none _ _)))
                                                      intro v117 w58 ho59 hb hg_ hnew_
                                                      clear hg_ hnew_
                                                      (first | rw [← Ny116.out] at ho59 | (simp only [Int.reduceToNat] at ho59; rw [← Ny116.out] at ho59))
                                                      have n0_ := Aside0.mk (Kd.R_lower ho59 (below_size (by repeat (first | (with_reducible first | exact HB.out | apply below_alloc | apply pw_below_drewN | apply below_drew1) | exact HB.out))))
                                                      have n1_ := Aside0.mk (below_step (by repeat (first | (with_reducible first | exact HB.out | apply below_alloc | apply pw_below_drewN | apply below_drew1) | exact HB.out)) hb)
                                                      clear HB
                                                      have HO118 := n0_
                                                      have HB := n1_
                                                      clear n0_ n1_
                                                      clear hb ho59
                                                      refine hK.out _ _ trivial (fun hHeld => ?_)
                                                      clear hK K
                                                      refine norm_ (a' := ?_) ?_ ?_
                                                      rotate_left
                                                      · show Act.put _ (some 115) _ = _
                                                        simp only [Act.put, List.setIfInBounds_toArray, List.set_cons_zero, List.set_cons_succ, i64_w, i32_w]
                                                        rfl
                                                      refine one_ (i := 4) (N := some 116) #[true, true, true, true, true, false, true, true, true, true, true, true, true, true, true, false, false] rfl rfl (one_of HT_.out (by kernel_rfl)) (by decide) (fun K hK => ?_)
                                                      have hcv60 := own_string (P := Tryd.prog) Tryd.underlying24 Tryd.underlying5 Tryd.underlying9 (Kd.own_of_R HO118.out)
                                                      refine value_ (w1 := ?_) (v := ?_) (by rfl) rfl ?_ ?_
                                                      rotate_left 2
                                                      · go_simp
                                                        constructor
                                                        · rfl
                                                        · rfl
                                                      clear hcv60
                                                      refine hK.out _ _ trivial (fun hHeld => ?_)
                                                      clear hK K
                                                      refine norm_ (a' := ?_) ?_ ?_
                                                      rotate_left
                                                      · show Act.put _ (some 116) _ = _
                                                        simp only [Act.put, List.setIfInBounds_toArray, List.set_cons_zero, List.set_cons_succ, i64_w, i32_w]
                                                        rfl
                                                      refine pure_ (i := 5) (N := some 117) (v := ?_) (a' := ?_) #[true, true, true, true, true, true, true, true, true, true, true, true, true, true, true, false, false] rfl rfl (any_of HT_.out (by kernel_rfl)) (fun _ _ _ h => h) (Or.inl ⟨by rfl, ?_⟩) ?_ ?_
                                                      rotate_left
                                                      · intro w'
                                                        go_simp
                                                        with_reducible rfl
                                                      rotate_left
                                                      · simp only [Act.put, List.setIfInBounds_toArray, List.set_cons_zero, List.set_cons_succ, i64_w, i32_w]
                                                        rfl
                                                      refine pure_ (i := 15) (N := some 127) (v := ?_) (a' := ?_) #[true, true, true, true, true, true, true, true, true, true, true, true, true, true, true, true, false] rfl rfl (any_of HT_.out (by kernel_rfl)) (fun _ _ _ h => h) (Or.inl ⟨by rfl, ?_⟩) ?_ ?_
                                                      rotate_left
                                                      · intro w'
                                                        go_simp
                                                        with_reducible rfl
                                                      rotate_left
                                                      · simp only [Act.put, List.setIfInBounds_toArray, List.set_cons_zero, List.set_cons_succ, i64_w, i32_w]
                                                        rfl
                                                      refine pure_ (i := 16) (N := some 3) (v := ?_) (a' := ?_) #[true, true, true, true, true, true, true, true, true, true, true, true, true, true, true, true, true] rfl rfl (any_of HT_.out (by kernel_rfl)) (fun _ _ _ h => h) (Or.inl ⟨by rfl, ?_⟩) ?_ ?_
                                                      rotate_left
                                                      · intro w'
                                                        go_simp
                                                        with_reducible rfl
                                                      rotate_left
                                                      · simp only [Act.put, List.setIfInBounds_toArray, List.set_cons_zero, List.set_cons_succ, i64_w, i32_w]
                                                        rfl
                                                      refine done_ (done_of HT_.out (by kernel_rfl)) ?_
                                                      try go_wp2
                                                      go_roundg k4
                                                      case measure => have := HK1.out; have := HK2.out; have := HJ19.out; have := HK4.out; omega
                                                      case rel => exact ⟨((x3_19 ++ (strOfNums y116)) ++ (a0.extract ((ji52) : Int).toNat ((ji45) : Int).toNat)), (wrap64 ((wrap64 (x4_1 + (wrap64 (8 * x8_4)))) + 8)), (by first | rfl | (simp; done) | (simp only [← hji45, ← hji52] <;> (first | rfl | simp)) | (simp [*]; done)), (by first | rfl | (simp; done) | (simp [*]; done)), H', ⟨by have := HK1.out; have := HK2.out; have := HJ19.out; have := HK4.out; omega⟩, ⟨by repeat (first | (with_reducible first | exact HB.out | apply below_alloc | apply pw_below_drewN | apply below_drew1) | exact HB.out)⟩⟩
                                                    · rw [if_neg c56] at H
                                                      exact absurd H (by simp)
                                                  · rw [if_neg c55] at H
                                                    exact absurd H (by simp)
                                                · rw [if_neg c54] at H
                                                  exact absurd H (by simp)
                                              · rw [if_neg c53] at H
                                                exact absurd H (by simp)
                                            · rw [if_neg c51] at H
                                              exact absurd H (by simp)
                                          · replace c50 := Bool.eq_false_iff.mpr c50
                                            subst c50
                                            have H1 : (spec_l3Pack.l3 k4 a0 x3_19 x4_1 (wrap64 (x8_4 + 1))) = some r := by rw [if_neg (show ¬ (false = true) by decide)] at H; exact H
                                            clear H
                                            have H := H1
                                            clear H1
                                            have H' := Aside0.mk H
                                            clear H
                                            go_wp2_with (first | (go_at_call 60; (with_reducible refine (spec_l3Few.calls k4 (a0.extract ((ji45) : Int).toNat ((wrap64 (x4_1 + (wrap64 (8 * (wrap64 (x8_4 + 2)))))) : Int).toNat) false _ A49.out).mono ?_); rintro e w' ⟨rfl, ⟨nd, rfl⟩⟩))
                                            go_roundg k4
                                            case measure => have := HK1.out; have := HK2.out; have := HJ19.out; have := HK4.out; omega
                                            case rel => exact ⟨(wrap64 (x8_4 + 1)), (by first | rfl | (simp; done) | (simp [*]; done)), H', ⟨by have := HK1.out; have := HK2.out; have := HJ19.out; have := HK4.out; omega⟩, ⟨by repeat (first | (with_reducible first | exact HB.out | apply below_alloc | apply pw_below_drewN | apply below_drew1) | exact HB.out)⟩⟩
                                        · rw [if_neg c48] at H
                                          exact absurd H (by simp)
                                      · rw [if_neg c47] at H
                                        exact absurd H (by simp)
                                    · rw [if_neg c46] at H
                                      exact absurd H (by simp)
                                  · rw [if_neg c44] at H
                                    have c44b0 : decide ((wrap64 (x4_1 + (wrap64 (8 * (wrap64 (x8_4 + 1)))))) < (a0.size : Int)) = false := decide_eq_false c44
                                    clear c44
                                    obtain ⟨y119, hy119⟩ : ∃ y_ : List Int, y_ = (([(x8_4) % 256] : List Int)) := ⟨_, rfl⟩
                                    replace H : (if x3_19.size + (strOfNums y119).size ≤ 9223372036854775807 then (if 0 ≤ (wrap64 (x4_1 + 8)) then (if (wrap64 (x4_1 + 8)) ≤ (wrap64 (x4_1 + (wrap64 (8 * (wrap64 (x8_4 + 1)))))) then (if (wrap64 (x4_1 + (wrap64 (8 * (wrap64 (x8_4 + 1)))))) ≤ (a0.size : Int) then (if (x3_19 ++ (strOfNums y119)).size + (a0.extract ((wrap64 (x4_1 + 8)) : Int).toNat ((wrap64 (x4_1 + (wrap64 (8 * (wrap64 (x8_4 + 1)))))) : Int).toNat).size ≤ 9223372036854775807 then (spec_l3Pack.l0 k4 a0 ((x3_19 ++ (strOfNums y119)) ++ (a0.extract ((wrap64 (x4_1 + 8)) : Int).toNat ((wrap64 (x4_1 + (wrap64 (8 * (wrap64 (x8_4 + 1)))))) : Int).toNat)) (wrap64 ((wrap64 (x4_1 + (wrap64 (8 * x8_4)))) + 8))) else (none)) else (none)) else (none)) else (none)) else (none)) = some r := by first | (rw [hy119]; with_reducible exact H) | (have H2_ := (Option.bind_some _ _).symm.trans H; rw [hy119]; with_reducible exact H2_) | (have H2_ := (Option.bind_some _ _).symm.trans H; with_reducible exact H2_) | with_reducible exact H | (rw [hy119]; exact H) | exact H
                                    have Ny119 := Aside0.mk hy119
                                    clear hy119
                                    by_cases c61 : x3_19.size + (strOfNums y119).size ≤ 9223372036854775807
                                    · rw [if_pos c61] at H
                                      have c61b0 := eq_true c61
                                      have c61b1 : decide (x3_19.size + (strOfNums y119).size ≤ 9223372036854775807) = true := decide_eq_true c61
                                      try have c61b2 : (9223372036854775807 < x3_19.size + (strOfNums y119).size) = False := eq_false (Nat.not_lt.2 c61)
                                      obtain ⟨ji62, hji62⟩ : ∃ j_ : Int, (wrap64 (x4_1 + 8)) = j_ := ⟨_, rfl⟩
                                      replace H : (if 0 ≤ (ji62) then (if (ji62) ≤ (wrap64 (x4_1 + (wrap64 (8 * (wrap64 (x8_4 + 1)))))) then (if (wrap64 (x4_1 + (wrap64 (8 * (wrap64 (x8_4 + 1)))))) ≤ (a0.size : Int) then (if (x3_19 ++ (strOfNums y119)).size + (a0.extract ((ji62) : Int).toNat ((wrap64 (x4_1 + (wrap64 (8 * (wrap64 (x8_4 + 1)))))) : Int).toNat).size ≤ 9223372036854775807 then (spec_l3Pack.l0 k4 a0 ((x3_19 ++ (strOfNums y119)) ++ (a0.extract ((ji62) : Int).toNat ((wrap64 (x4_1 + (wrap64 (8 * (wrap64 (x8_4 + 1)))))) : Int).toNat)) (wrap64 ((wrap64 (x4_1 + (wrap64 (8 * x8_4)))) + 8))) else (none)) else (none)) else (none)) else (none)) = some r := by first | (rw [hji62] at H; exact H) | (simp only [hji62] at H ⊢; exact H)
                                      (try rw [hji62] at c4b0)
                                      (try rw [hji62] at c4b1)
                                      (try rw [hji62] at c4)
                                      (try rw [hji62] at c5b0)
                                      (try rw [hji62] at c5b1)
                                      (try rw [hji62] at c5)
                                      have hji62w : (IntKind.i64.wrap (x4_1 + 8)) = ji62 := (i64_w _).trans hji62
                                      by_cases c63 : 0 ≤ (ji62)
                                      · rw [if_pos c63] at H
                                        have c63b0 := eq_true c63
                                        have c63b1 : decide (0 ≤ (ji62)) = true := decide_eq_true c63
                                        clear c63
                                        by_cases c64 : (ji62) ≤ (wrap64 (x4_1 + (wrap64 (8 * (wrap64 (x8_4 + 1))))))
                                        · rw [if_pos c64] at H
                                          have c64b0 := eq_true c64
                                          have c64b1 : decide ((ji62) ≤ (wrap64 (x4_1 + (wrap64 (8 * (wrap64 (x8_4 + 1))))))) = true := decide_eq_true c64
                                          by_cases c65 : (wrap64 (x4_1 + (wrap64 (8 * (wrap64 (x8_4 + 1)))))) ≤ (a0.size : Int)
                                          · rw [if_pos c65] at H
                                            have c65b0 := eq_true c65
                                            have c65b1 : decide ((wrap64 (x4_1 + (wrap64 (8 * (wrap64 (x8_4 + 1)))))) ≤ (a0.size : Int)) = true := decide_eq_true c65
                                            by_cases c66 : (x3_19 ++ (strOfNums y119)).size + (a0.extract ((ji62) : Int).toNat ((wrap64 (x4_1 + (wrap64 (8 * (wrap64 (x8_4 + 1)))))) : Int).toNat).size ≤ 9223372036854775807
                                            · rw [if_pos c66] at H
                                              have c66b0 := eq_true c66
                                              have c66b1 : decide ((x3_19 ++ (strOfNums y119)).size + (a0.extract ((ji62) : Int).toNat ((wrap64 (x4_1 + (wrap64 (8 * (wrap64 (x8_4 + 1)))))) : Int).toNat).size ≤ 9223372036854775807) = true := decide_eq_true c66
                                              try have c66b2 : (9223372036854775807 < (x3_19 ++ (strOfNums y119)).size + (a0.extract ((ji62) : Int).toNat ((wrap64 (x4_1 + (wrap64 (8 * (wrap64 (x8_4 + 1)))))) : Int).toNat).size) = False := eq_false (Nat.not_lt.2 c66)
                                              try have c66b3 : (9223372036854775807 < x3_19.size + (strOfNums y119).size + (((wrap64 (x4_1 + (wrap64 (8 * (wrap64 (x8_4 + 1)))))) : Int).toNat - ((ji62) : Int).toNat)) = False := eq_false (by have q_ := c66; simp only [ByteArray.size_extract, ByteArray.size_append] at q_; (try simp only [decide_eq_true_eq, eq_iff_iff, iff_true] at *); omega)
                                              have H' := Aside0.mk H
                                              clear H
                                              try go_wp2
                                              (try (rw [drewN_self wr]; generalize hq_ : World.drewN wr _ = wq_; have m0_ : Aside0 (Below w.heap.size w wq_) := ⟨by rw [← hq_]; exact pw_below_drewN HB.out _⟩; clear HB hq_; have HB := m0_; clear m0_))
                                              have n0_ := Aside0.mk (below_drew1 HB.out)
                                              clear HB
                                              have HB := n0_
                                              clear n0_
                                              refine start_ (n := 17) (S := fun w' => True) (ds := []) #[false, false, false, false, false, false, false, false, false, false, false, false, false, false, false, false, false] (by kernel_rfl) rfl rfl trivial (fun hHeld => ?_); refine with_tabW spec_l3Pack.tab21 spec_l3Pack.bits21 (fun HT_ HW_ => ?_)
                                              (first | generalize wq_.drew = w67 at HB hHeld ⊢ | generalize wr.drew = w67 at HB hHeld ⊢)
                                              refine pure_ (i := 0) (N := some 112) (v := ?_) (a' := ?_) #[true, false, false, false, false, false, false, false, false, false, false, false, false, false, false, false, false] rfl rfl (any_of HT_.out (by kernel_rfl)) (fun _ _ _ h => h) (Or.inl ⟨by rfl, ?_⟩) ?_ ?_
                                              rotate_left
                                              · intro w'
                                                go_simp
                                                with_reducible rfl
                                              rotate_left
                                              · simp only [Act.put, List.setIfInBounds_toArray, List.set_cons_zero, List.set_cons_succ, i64_w, i32_w]
                                                rfl
                                              refine pure_ (i := 1) (N := some 113) (v := ?_) (a' := ?_) #[true, true, false, false, false, false, false, false, false, false, false, false, false, false, false, false, false] rfl rfl (any_of HT_.out (by kernel_rfl)) (fun _ _ _ h => h) (Or.inl ⟨by rfl, ?_⟩) ?_ ?_
                                              rotate_left
                                              · intro w'
                                                go_simp
                                                with_reducible rfl
                                              rotate_left
                                              · simp only [Act.put, List.setIfInBounds_toArray, List.set_cons_zero, List.set_cons_succ, i64_w, i32_w]
                                                rfl
                                              refine pure_ (i := 2) (N := some 114) (v := ?_) (a' := ?_) #[true, true, true, false, false, false, false, false, false, false, false, false, false, false, false, false, false] rfl rfl (any_of HT_.out (by kernel_rfl)) (fun _ _ _ h => h) (Or.inl ⟨by rfl, ?_⟩) ?_ ?_
                                              rotate_left
                                              · intro w'
                                                go_simp
                                                with_reducible rfl
                                              rotate_left
                                              · simp only [Act.put, List.setIfInBounds_toArray, List.set_cons_zero, List.set_cons_succ, i64_w, i32_w]
                                                rfl
                                              refine pure_ (i := 6) (N := some 118) (v := ?_) (a' := ?_) #[true, true, true, false, false, false, true, false, false, false, false, false, false, false, false, false, false] rfl rfl (any_of HT_.out (by kernel_rfl)) (fun _ _ _ h => h) (Or.inl ⟨by rfl, ?_⟩) ?_ ?_
                                              rotate_left
                                              · intro w'
                                                go_simp
                                                with_reducible rfl
                                              rotate_left
                                              · simp only [Act.put, List.setIfInBounds_toArray, List.set_cons_zero, List.set_cons_succ, i64_w, i32_w]
                                                rfl
                                              refine pure_ (i := 7) (N := some 119) (v := ?_) (a' := ?_) #[true, true, true, false, false, false, true, true, false, false, false, false, false, false, false, false, false] rfl rfl (any_of HT_.out (by kernel_rfl)) (fun _ _ _ h => h) (Or.inl ⟨by rfl, ?_⟩) ?_ ?_
                                              rotate_left
                                              · intro w'
                                                go_simp
                                                with_reducible rfl
                                              rotate_left
                                              · simp only [Act.put, List.setIfInBounds_toArray, List.set_cons_zero, List.set_cons_succ, i64_w, i32_w]
                                                rfl
                                              refine pure_ (i := 8) (N := some 120) (v := ?_) (a' := ?_) #[true, true, true, false, false, false, true, true, true, false, false, false, false, false, false, false, false] rfl rfl (any_of HT_.out (by kernel_rfl)) (fun _ _ _ h => h) (Or.inl ⟨by rfl, ?_⟩) ?_ ?_
                                              rotate_left
                                              · intro w'
                                                go_simp
                                                with_reducible rfl
                                              rotate_left
                                              · simp only [Act.put, List.setIfInBounds_toArray, List.set_cons_zero, List.set_cons_succ, i64_w, i32_w]
                                                rfl
                                              refine pure_ (i := 9) (N := some 121) (v := ?_) (a' := ?_) #[true, true, true, false, false, false, true, true, true, true, false, false, false, false, false, false, false] rfl rfl (any_of HT_.out (by kernel_rfl)) (fun _ _ _ h => h) (Or.inl ⟨by rfl, ?_⟩) ?_ ?_
                                              rotate_left
                                              · intro w'
                                                go_simp
                                                with_reducible rfl
                                              rotate_left
                                              · simp only [Act.put, List.setIfInBounds_toArray, List.set_cons_zero, List.set_cons_succ, i64_w, i32_w]
                                                rfl
                                              refine pure_ (i := 10) (N := some 122) (v := ?_) (a' := ?_) #[true, true, true, false, false, false, true, true, true, true, true, false, false, false, false, false, false] rfl rfl (any_of HT_.out (by kernel_rfl)) (fun _ _ _ h => h) (Or.inl ⟨by rfl, ?_⟩) ?_ ?_
                                              rotate_left
                                              · intro w'
                                                go_simp
                                                with_reducible rfl
                                              rotate_left
                                              · simp only [Act.put, List.setIfInBounds_toArray, List.set_cons_zero, List.set_cons_succ, i64_w, i32_w]
                                                rfl
                                              refine pure_ (i := 11) (N := some 123) (v := ?_) (a' := ?_) #[true, true, true, false, false, false, true, true, true, true, true, true, false, false, false, false, false] rfl rfl (any_of HT_.out (by kernel_rfl)) (fun _ _ _ h => h) (Or.inl ⟨by rfl, ?_⟩) ?_ ?_
                                              rotate_left
                                              · intro w'
                                                go_simp
                                                with_reducible rfl
                                              rotate_left
                                              · simp only [Act.put, List.setIfInBounds_toArray, List.set_cons_zero, List.set_cons_succ, i64_w, i32_w]
                                                rfl
                                              refine pure_ (i := 12) (N := some 124) (v := ?_) (a' := ?_) #[true, true, true, false, false, false, true, true, true, true, true, true, true, false, false, false, false] rfl rfl (any_of HT_.out (by kernel_rfl)) (fun _ _ _ h => h) (Or.inl ⟨by rfl, ?_⟩) ?_ ?_
                                              rotate_left
                                              · intro w'
                                                go_simp
                                                with_reducible rfl
                                              rotate_left
                                              · simp only [Act.put, List.setIfInBounds_toArray, List.set_cons_zero, List.set_cons_succ, i64_w, i32_w]
                                                rfl
                                              refine pure_ (i := 13) (N := some 125) (v := ?_) (a' := ?_) #[true, true, true, false, false, false, true, true, true, true, true, true, true, true, false, false, false] rfl rfl (any_of HT_.out (by kernel_rfl)) (fun _ _ _ h => h) (Or.inl ⟨by rfl, ?_⟩) ?_ ?_
                                              rotate_left
                                              · intro w'
                                                go_simp
                                                with_reducible rfl
                                              rotate_left
                                              · simp only [Act.put, List.setIfInBounds_toArray, List.set_cons_zero, List.set_cons_succ, i64_w, i32_w]
                                                rfl
                                              refine pure_ (i := 14) (N := some 126) (v := ?_) (a' := ?_) #[true, true, true, false, false, false, true, true, true, true, true, true, true, true, true, false, false] rfl rfl (any_of HT_.out (by kernel_rfl)) (fun _ _ _ h => h) (Or.inl ⟨by rfl, ?_⟩) ?_ ?_
                                              rotate_left
                                              · intro w'
                                                go_simp
                                                with_reducible rfl
                                              rotate_left
                                              · simp only [Act.put, List.setIfInBounds_toArray, List.set_cons_zero, List.set_cons_succ, i64_w, i32_w]
                                                rfl
                                              refine one_ (i := 3) (N := some 115) #[true, true, true, true, false, false, true, true, true, true, true, true, true, true, true, false, false] rfl rfl (one_of HT_.out (by kernel_rfl)) (by decide) (fun K hK => ?_)
                                              refine Kd.R_lit_step (Kd.int .u8) _ 5 ?hg (N := 115) ?hd (xs := ([(x8_4) % 256] : List Int)) (inner := [.int .u8 ((x8_4) % 256)]) (ok := fun _ => True) (okp := fun _ => True) ?hr ?hp (fun _ hk => hk) trivial (Below.refl _ _) (Nat.le_refl _) (by simp) ?_; (case hd => rfl); (case hg => rfl); (case hr => first | (go_simp; done) | (go_simp; rfl)); (case hp => exact (Reps.one (show Kd.M (Kd.int .u8) _ _ _ ((x8_4) % 256) [.int .u8 ((x8_4) % 256)] from rfl) (Reps.none _ _)))
                                              intro v120 w68 ho69 hb hg_ hnew_
                                              clear hg_ hnew_
                                              (first | rw [← Ny119.out] at ho69 | (simp only [Int.reduceToNat] at ho69; rw [← Ny119.out] at ho69))
                                              have n0_ := Aside0.mk (Kd.R_lower ho69 (below_size (by repeat (first | (with_reducible first | exact HB.out | apply below_alloc | apply pw_below_drewN | apply below_drew1) | exact HB.out))))
                                              have n1_ := Aside0.mk (below_step (by repeat (first | (with_reducible first | exact HB.out | apply below_alloc | apply pw_below_drewN | apply below_drew1) | exact HB.out)) hb)
                                              clear HB
                                              have HO121 := n0_
                                              have HB := n1_
                                              clear n0_ n1_
                                              clear hb ho69
                                              refine hK.out _ _ trivial (fun hHeld => ?_)
                                              clear hK K
                                              refine norm_ (a' := ?_) ?_ ?_
                                              rotate_left
                                              · show Act.put _ (some 115) _ = _
                                                simp only [Act.put, List.setIfInBounds_toArray, List.set_cons_zero, List.set_cons_succ, i64_w, i32_w]
                                                rfl
                                              refine one_ (i := 4) (N := some 116) #[true, true, true, true, true, false, true, true, true, true, true, true, true, true, true, false, false] rfl rfl (one_of HT_.out (by kernel_rfl)) (by decide) (fun K hK => ?_)
                                              have hcv70 := own_string (P := Tryd.prog) Tryd.underlying24 Tryd.underlying5 Tryd.underlying9 (Kd.own_of_R HO121.out)
                                              refine value_ (w1 := ?_) (v := ?_) (by rfl) rfl ?_ ?_
                                              rotate_left 2
                                              · go_simp
                                                constructor
                                                · rfl
                                                · rfl
                                              clear hcv70
                                              refine hK.out _ _ trivial (fun hHeld => ?_)
                                              clear hK K
                                              refine norm_ (a' := ?_) ?_ ?_
                                              rotate_left
                                              · show Act.put _ (some 116) _ = _
                                                simp only [Act.put, List.setIfInBounds_toArray, List.set_cons_zero, List.set_cons_succ, i64_w, i32_w]
                                                rfl
                                              refine pure_ (i := 5) (N := some 117) (v := ?_) (a' := ?_) #[true, true, true, true, true, true, true, true, true, true, true, true, true, true, true, false, false] rfl rfl (any_of HT_.out (by kernel_rfl)) (fun _ _ _ h => h) (Or.inl ⟨by rfl, ?_⟩) ?_ ?_
                                              rotate_left
                                              · intro w'
                                                go_simp
                                                with_reducible rfl
                                              rotate_left
                                              · simp only [Act.put, List.setIfInBounds_toArray, List.set_cons_zero, List.set_cons_succ, i64_w, i32_w]
                                                rfl
                                              refine pure_ (i := 15) (N := some 127) (v := ?_) (a' := ?_) #[true, true, true, true, true, true, true, true, true, true, true, true, true, true, true, true, false] rfl rfl (any_of HT_.out (by kernel_rfl)) (fun _ _ _ h => h) (Or.inl ⟨by rfl, ?_⟩) ?_ ?_
                                              rotate_left
                                              · intro w'
                                                go_simp
                                                with_reducible rfl
                                              rotate_left
                                              · simp only [Act.put, List.setIfInBounds_toArray, List.set_cons_zero, List.set_cons_succ, i64_w, i32_w]
                                                rfl
                                              refine pure_ (i := 16) (N := some 3) (v := ?_) (a' := ?_) #[true, true, true, true, true, true, true, true, true, true, true, true, true, true, true, true, true] rfl rfl (any_of HT_.out (by kernel_rfl)) (fun _ _ _ h => h) (Or.inl ⟨by rfl, ?_⟩) ?_ ?_
                                              rotate_left
                                              · intro w'
                                                go_simp
                                                with_reducible rfl
                                              rotate_left
                                              · simp only [Act.put, List.setIfInBounds_toArray, List.set_cons_zero, List.set_cons_succ, i64_w, i32_w]
                                                rfl
                                              refine done_ (done_of HT_.out (by kernel_rfl)) ?_
                                              try go_wp2
                                              go_roundg k4
                                              case measure => have := HK1.out; have := HK2.out; have := HJ19.out; have := HK4.out; omega
                                              case rel => exact ⟨((x3_19 ++ (strOfNums y119)) ++ (a0.extract ((ji62) : Int).toNat ((wrap64 (x4_1 + (wrap64 (8 * (wrap64 (x8_4 + 1)))))) : Int).toNat)), (wrap64 ((wrap64 (x4_1 + (wrap64 (8 * x8_4)))) + 8)), (by first | rfl | (simp; done) | (simp only [← hji62] <;> (first | rfl | simp)) | (simp [*]; done)), (by first | rfl | (simp; done) | (simp [*]; done)), H', ⟨by have := HK1.out; have := HK2.out; have := HJ19.out; have := HK4.out; omega⟩, ⟨by repeat (first | (with_reducible first | exact HB.out | apply below_alloc | apply pw_below_drewN | apply below_drew1) | exact HB.out)⟩⟩
                                            · rw [if_neg c66] at H
                                              exact absurd H (by simp)
                                          · rw [if_neg c65] at H
                                            exact absurd H (by simp)
                                        · rw [if_neg c64] at H
                                          exact absurd H (by simp)
                                      · rw [if_neg c63] at H
                                        exact absurd H (by simp)
                                    · rw [if_neg c61] at H
                                      exact absurd H (by simp)
                                · rw [if_neg c43] at H
                                  have c43b0 : decide (x8_4 < 255) = false := decide_eq_false c43
                                  clear c43
                                  obtain ⟨y122, hy122⟩ : ∃ y_ : List Int, y_ = (([(x8_4) % 256] : List Int)) := ⟨_, rfl⟩
                                  replace H : (if x3_19.size + (strOfNums y122).size ≤ 9223372036854775807 then (if 0 ≤ (wrap64 (x4_1 + 8)) then (if (wrap64 (x4_1 + 8)) ≤ (wrap64 (x4_1 + (wrap64 (8 * (wrap64 (x8_4 + 1)))))) then (if (wrap64 (x4_1 + (wrap64 (8 * (wrap64 (x8_4 + 1)))))) ≤ (a0.size : Int) then (if (x3_19 ++ (strOfNums y122)).size + (a0.extract ((wrap64 (x4_1 + 8)) : Int).toNat ((wrap64 (x4_1 + (wrap64 (8 * (wrap64 (x8_4 + 1)))))) : Int).toNat).size ≤ 9223372036854775807 then (spec_l3Pack.l0 k4 a0 ((x3_19 ++ (strOfNums y122)) ++ (a0.extract ((wrap64 (x4_1 + 8)) : Int).toNat ((wrap64 (x4_1 + (wrap64 (8 * (wrap64 (x8_4 + 1)))))) : Int).toNat)) (wrap64 ((wrap64 (x4_1 + (wrap64 (8 * x8_4)))) + 8))) else (none)) else (none)) else (none)) else (none)) else (none)) = some r := by first | (rw [hy122]; with_reducible exact H) | (have H2_ := (Option.bind_some _ _).symm.trans H; rw [hy122]; with_reducible exact H2_) | (have H2_ := (Option.bind_some _ _).symm.trans H; with_reducible exact H2_) | with_reducible exact H | (rw [hy122]; exact H) | exact H
                                  have Ny122 := Aside0.mk hy122
                                  clear hy122
                                  by_cases c71 : x3_19.size + (strOfNums y122).size ≤ 9223372036854775807
                                  · rw [if_pos c71] at H
                                    have c71b0 := eq_true c71
                                    have c71b1 : decide (x3_19.size + (strOfNums y122).size ≤ 9223372036854775807) = true := decide_eq_true c71
                                    try have c71b2 : (9223372036854775807 < x3_19.size + (strOfNums y122).size) = False := eq_false (Nat.not_lt.2 c71)
                                    obtain ⟨ji72, hji72⟩ : ∃ j_ : Int, (wrap64 (x4_1 + 8)) = j_ := ⟨_, rfl⟩
                                    replace H : (if 0 ≤ (ji72) then (if (ji72) ≤ (wrap64 (x4_1 + (wrap64 (8 * (wrap64 (x8_4 + 1)))))) then (if (wrap64 (x4_1 + (wrap64 (8 * (wrap64 (x8_4 + 1)))))) ≤ (a0.size : Int) then (if (x3_19 ++ (strOfNums y122)).size + (a0.extract ((ji72) : Int).toNat ((wrap64 (x4_1 + (wrap64 (8 * (wrap64 (x8_4 + 1)))))) : Int).toNat).size ≤ 9223372036854775807 then (spec_l3Pack.l0 k4 a0 ((x3_19 ++ (strOfNums y122)) ++ (a0.extract ((ji72) : Int).toNat ((wrap64 (x4_1 + (wrap64 (8 * (wrap64 (x8_4 + 1)))))) : Int).toNat)) (wrap64 ((wrap64 (x4_1 + (wrap64 (8 * x8_4)))) + 8))) else (none)) else (none)) else (none)) else (none)) = some r := by first | (rw [hji72] at H; exact H) | (simp only [hji72] at H ⊢; exact H)
                                    (try rw [hji72] at c4b0)
                                    (try rw [hji72] at c4b1)
                                    (try rw [hji72] at c4)
                                    (try rw [hji72] at c5b0)
                                    (try rw [hji72] at c5b1)
                                    (try rw [hji72] at c5)
                                    have hji72w : (IntKind.i64.wrap (x4_1 + 8)) = ji72 := (i64_w _).trans hji72
                                    by_cases c73 : 0 ≤ (ji72)
                                    · rw [if_pos c73] at H
                                      have c73b0 := eq_true c73
                                      have c73b1 : decide (0 ≤ (ji72)) = true := decide_eq_true c73
                                      clear c73
                                      by_cases c74 : (ji72) ≤ (wrap64 (x4_1 + (wrap64 (8 * (wrap64 (x8_4 + 1))))))
                                      · rw [if_pos c74] at H
                                        have c74b0 := eq_true c74
                                        have c74b1 : decide ((ji72) ≤ (wrap64 (x4_1 + (wrap64 (8 * (wrap64 (x8_4 + 1))))))) = true := decide_eq_true c74
                                        by_cases c75 : (wrap64 (x4_1 + (wrap64 (8 * (wrap64 (x8_4 + 1)))))) ≤ (a0.size : Int)
                                        · rw [if_pos c75] at H
                                          have c75b0 := eq_true c75
                                          have c75b1 : decide ((wrap64 (x4_1 + (wrap64 (8 * (wrap64 (x8_4 + 1)))))) ≤ (a0.size : Int)) = true := decide_eq_true c75
                                          by_cases c76 : (x3_19 ++ (strOfNums y122)).size + (a0.extract ((ji72) : Int).toNat ((wrap64 (x4_1 + (wrap64 (8 * (wrap64 (x8_4 + 1)))))) : Int).toNat).size ≤ 9223372036854775807
                                          · rw [if_pos c76] at H
                                            have c76b0 := eq_true c76
                                            have c76b1 : decide ((x3_19 ++ (strOfNums y122)).size + (a0.extract ((ji72) : Int).toNat ((wrap64 (x4_1 + (wrap64 (8 * (wrap64 (x8_4 + 1)))))) : Int).toNat).size ≤ 9223372036854775807) = true := decide_eq_true c76
                                            try have c76b2 : (9223372036854775807 < (x3_19 ++ (strOfNums y122)).size + (a0.extract ((ji72) : Int).toNat ((wrap64 (x4_1 + (wrap64 (8 * (wrap64 (x8_4 + 1)))))) : Int).toNat).size) = False := eq_false (Nat.not_lt.2 c76)
                                            try have c76b3 : (9223372036854775807 < x3_19.size + (strOfNums y122).size + (((wrap64 (x4_1 + (wrap64 (8 * (wrap64 (x8_4 + 1)))))) : Int).toNat - ((ji72) : Int).toNat)) = False := eq_false (by have q_ := c76; simp only [ByteArray.size_extract, ByteArray.size_append] at q_; (try simp only [decide_eq_true_eq, eq_iff_iff, iff_true] at *); omega)
                                            have H' := Aside0.mk H
                                            clear H
                                            try go_wp2
                                            (try (rw [drewN_self wr]; generalize hq_ : World.drewN wr _ = wq_; have m0_ : Aside0 (Below w.heap.size w wq_) := ⟨by rw [← hq_]; exact pw_below_drewN HB.out _⟩; clear HB hq_; have HB := m0_; clear m0_))
                                            have n0_ := Aside0.mk (below_drew1 HB.out)
                                            clear HB
                                            have HB := n0_
                                            clear n0_
                                            refine start_ (n := 17) (S := fun w' => True) (ds := []) #[false, false, false, false, false, false, false, false, false, false, false, false, false, false, false, false, false] (by kernel_rfl) rfl rfl trivial (fun hHeld => ?_); refine with_tabW spec_l3Pack.tab21 spec_l3Pack.bits21 (fun HT_ HW_ => ?_)
                                            (first | generalize wq_.drew = w77 at HB hHeld ⊢ | generalize wr.drew = w77 at HB hHeld ⊢)
                                            refine pure_ (i := 0) (N := some 112) (v := ?_) (a' := ?_) #[true, false, false, false, false, false, false, false, false, false, false, false, false, false, false, false, false] rfl rfl (any_of HT_.out (by kernel_rfl)) (fun _ _ _ h => h) (Or.inl ⟨by rfl, ?_⟩) ?_ ?_
                                            rotate_left
                                            · intro w'
                                              go_simp
                                              with_reducible rfl
                                            rotate_left
                                            · simp only [Act.put, List.setIfInBounds_toArray, List.set_cons_zero, List.set_cons_succ, i64_w, i32_w]
                                              rfl
                                            refine pure_ (i := 1) (N := some 113) (v := ?_) (a' := ?_) #[true, true, false, false, false, false, false, false, false, false, false, false, false, false, false, false, false] rfl rfl (any_of HT_.out (by kernel_rfl)) (fun _ _ _ h => h) (Or.inl ⟨by rfl, ?_⟩) ?_ ?_
                                            rotate_left
                                            · intro w'
                                              go_simp
                                              with_reducible rfl
                                            rotate_left
                                            · simp only [Act.put, List.setIfInBounds_toArray, List.set_cons_zero, List.set_cons_succ, i64_w, i32_w]
                                              rfl
                                            refine pure_ (i := 2) (N := some 114) (v := ?_) (a' := ?_) #[true, true, true, false, false, false, false, false, false, false, false, false, false, false, false, false, false] rfl rfl (any_of HT_.out (by kernel_rfl)) (fun _ _ _ h => h) (Or.inl ⟨by rfl, ?_⟩) ?_ ?_
                                            rotate_left
                                            · intro w'
                                              go_simp
                                              with_reducible rfl
                                            rotate_left
                                            · simp only [Act.put, List.setIfInBounds_toArray, List.set_cons_zero, List.set_cons_succ, i64_w, i32_w]
                                              rfl
                                            refine pure_ (i := 6) (N := some 118) (v := ?_) (a' := ?_) #[true, true, true, false, false, false, true, false, false, false, false, false, false, false, false, false, false] rfl rfl (any_of HT_.out (by kernel_rfl)) (fun _ _ _ h => h) (Or.inl ⟨by rfl, ?_⟩) ?_ ?_
                                            rotate_left
                                            · intro w'
                                              go_simp
                                              with_reducible rfl
                                            rotate_left
                                            · simp only [Act.put, List.setIfInBounds_toArray, List.set_cons_zero, List.set_cons_succ, i64_w, i32_w]
                                              rfl
                                            refine pure_ (i := 7) (N := some 119) (v := ?_) (a' := ?_) #[true, true, true, false, false, false, true, true, false, false, false, false, false, false, false, false, false] rfl rfl (any_of HT_.out (by kernel_rfl)) (fun _ _ _ h => h) (Or.inl ⟨by rfl, ?_⟩) ?_ ?_
                                            rotate_left
                                            · intro w'
                                              go_simp
                                              with_reducible rfl
                                            rotate_left
                                            · simp only [Act.put, List.setIfInBounds_toArray, List.set_cons_zero, List.set_cons_succ, i64_w, i32_w]
                                              rfl
                                            refine pure_ (i := 8) (N := some 120) (v := ?_) (a' := ?_) #[true, true, true, false, false, false, true, true, true, false, false, false, false, false, false, false, false] rfl rfl (any_of HT_.out (by kernel_rfl)) (fun _ _ _ h => h) (Or.inl ⟨by rfl, ?_⟩) ?_ ?_
                                            rotate_left
                                            · intro w'
                                              go_simp
                                              with_reducible rfl
                                            rotate_left
                                            · simp only [Act.put, List.setIfInBounds_toArray, List.set_cons_zero, List.set_cons_succ, i64_w, i32_w]
                                              rfl
                                            refine pure_ (i := 9) (N := some 121) (v := ?_) (a' := ?_) #[true, true, true, false, false, false, true, true, true, true, false, false, false, false, false, false, false] rfl rfl (any_of HT_.out (by kernel_rfl)) (fun _ _ _ h => h) (Or.inl ⟨by rfl, ?_⟩) ?_ ?_
                                            rotate_left
                                            · intro w'
                                              go_simp
                                              with_reducible rfl
                                            rotate_left
                                            · simp only [Act.put, List.setIfInBounds_toArray, List.set_cons_zero, List.set_cons_succ, i64_w, i32_w]
                                              rfl
                                            refine pure_ (i := 10) (N := some 122) (v := ?_) (a' := ?_) #[true, true, true, false, false, false, true, true, true, true, true, false, false, false, false, false, false] rfl rfl (any_of HT_.out (by kernel_rfl)) (fun _ _ _ h => h) (Or.inl ⟨by rfl, ?_⟩) ?_ ?_
                                            rotate_left
                                            · intro w'
                                              go_simp
                                              with_reducible rfl
                                            rotate_left
                                            · simp only [Act.put, List.setIfInBounds_toArray, List.set_cons_zero, List.set_cons_succ, i64_w, i32_w]
                                              rfl
                                            refine pure_ (i := 11) (N := some 123) (v := ?_) (a' := ?_) #[true, true, true, false, false, false, true, true, true, true, true, true, false, false, false, false, false] rfl rfl (any_of HT_.out (by kernel_rfl)) (fun _ _ _ h => h) (Or.inl ⟨by rfl, ?_⟩) ?_ ?_
                                            rotate_left
                                            · intro w'
                                              go_simp
                                              with_reducible rfl
                                            rotate_left
                                            · simp only [Act.put, List.setIfInBounds_toArray, List.set_cons_zero, List.set_cons_succ, i64_w, i32_w]
                                              rfl
                                            refine pure_ (i := 12) (N := some 124) (v := ?_) (a' := ?_) #[true, true, true, false, false, false, true, true, true, true, true, true, true, false, false, false, false] rfl rfl (any_of HT_.out (by kernel_rfl)) (fun _ _ _ h => h) (Or.inl ⟨by rfl, ?_⟩) ?_ ?_
                                            rotate_left
                                            · intro w'
                                              go_simp
                                              with_reducible rfl
                                            rotate_left
                                            · simp only [Act.put, List.setIfInBounds_toArray, List.set_cons_zero, List.set_cons_succ, i64_w, i32_w]
                                              rfl
                                            refine pure_ (i := 13) (N := some 125) (v := ?_) (a' := ?_) #[true, true, true, false, false, false, true, true, true, true, true, true, true, true, false, false, false] rfl rfl (any_of HT_.out (by kernel_rfl)) (fun _ _ _ h => h) (Or.inl ⟨by rfl, ?_⟩) ?_ ?_
                                            rotate_left
                                            · intro w'
                                              go_simp
                                              with_reducible rfl
                                            rotate_left
                                            · simp only [Act.put, List.setIfInBounds_toArray, List.set_cons_zero, List.set_cons_succ, i64_w, i32_w]
                                              rfl
                                            refine pure_ (i := 14) (N := some 126) (v := ?_) (a' := ?_) #[true, true, true, false, false, false, true, true, true, true, true, true, true, true, true, false, false] rfl rfl (any_of HT_.out (by kernel_rfl)) (fun _ _ _ h => h) (Or.inl ⟨by rfl, ?_⟩) ?_ ?_
                                            rotate_left
                                            · intro w'
                                              go_simp
                                              with_reducible rfl
                                            rotate_left
                                            · simp only [Act.put, List.setIfInBounds_toArray, List.set_cons_zero, List.set_cons_succ, i64_w, i32_w]
                                              rfl
                                            refine one_ (i := 3) (N := some 115) #[true, true, true, true, false, false, true, true, true, true, true, true, true, true, true, false, false] rfl rfl (one_of HT_.out (by kernel_rfl)) (by decide) (fun K hK => ?_)
                                            refine Kd.R_lit_step (Kd.int .u8) _ 5 ?hg (N := 115) ?hd (xs := ([(x8_4) % 256] : List Int)) (inner := [.int .u8 ((x8_4) % 256)]) (ok := fun _ => True) (okp := fun _ => True) ?hr ?hp (fun _ hk => hk) trivial (Below.refl _ _) (Nat.le_refl _) (by simp) ?_; (case hd => rfl); (case hg => rfl); (case hr => first | (go_simp; done) | (go_simp; rfl)); (case hp => exact (Reps.one (show Kd.M (Kd.int .u8) _ _ _ ((x8_4) % 256) [.int .u8 ((x8_4) % 256)] from rfl) (Reps.none _ _)))
                                            intro v123 w78 ho79 hb hg_ hnew_
                                            clear hg_ hnew_
                                            (first | rw [← Ny122.out] at ho79 | (simp only [Int.reduceToNat] at ho79; rw [← Ny122.out] at ho79))
                                            have n0_ := Aside0.mk (Kd.R_lower ho79 (below_size (by repeat (first | (with_reducible first | exact HB.out | apply below_alloc | apply pw_below_drewN | apply below_drew1) | exact HB.out))))
                                            have n1_ := Aside0.mk (below_step (by repeat (first | (with_reducible first | exact HB.out | apply below_alloc | apply pw_below_drewN | apply below_drew1) | exact HB.out)) hb)
                                            clear HB
                                            have HO124 := n0_
                                            have HB := n1_
                                            clear n0_ n1_
                                            clear hb ho79
                                            refine hK.out _ _ trivial (fun hHeld => ?_)
                                            clear hK K
                                            refine norm_ (a' := ?_) ?_ ?_
                                            rotate_left
                                            · show Act.put _ (some 115) _ = _
                                              simp only [Act.put, List.setIfInBounds_toArray, List.set_cons_zero, List.set_cons_succ, i64_w, i32_w]
                                              rfl
                                            refine one_ (i := 4) (N := some 116) #[true, true, true, true, true, false, true, true, true, true, true, true, true, true, true, false, false] rfl rfl (one_of HT_.out (by kernel_rfl)) (by decide) (fun K hK => ?_)
                                            have hcv80 := own_string (P := Tryd.prog) Tryd.underlying24 Tryd.underlying5 Tryd.underlying9 (Kd.own_of_R HO124.out)
                                            refine value_ (w1 := ?_) (v := ?_) (by rfl) rfl ?_ ?_
                                            rotate_left 2
                                            · go_simp
                                              constructor
                                              · rfl
                                              · rfl
                                            clear hcv80
                                            refine hK.out _ _ trivial (fun hHeld => ?_)
                                            clear hK K
                                            refine norm_ (a' := ?_) ?_ ?_
                                            rotate_left
                                            · show Act.put _ (some 116) _ = _
                                              simp only [Act.put, List.setIfInBounds_toArray, List.set_cons_zero, List.set_cons_succ, i64_w, i32_w]
                                              rfl
                                            refine pure_ (i := 5) (N := some 117) (v := ?_) (a' := ?_) #[true, true, true, true, true, true, true, true, true, true, true, true, true, true, true, false, false] rfl rfl (any_of HT_.out (by kernel_rfl)) (fun _ _ _ h => h) (Or.inl ⟨by rfl, ?_⟩) ?_ ?_
                                            rotate_left
                                            · intro w'
                                              go_simp
                                              with_reducible rfl
                                            rotate_left
                                            · simp only [Act.put, List.setIfInBounds_toArray, List.set_cons_zero, List.set_cons_succ, i64_w, i32_w]
                                              rfl
                                            refine pure_ (i := 15) (N := some 127) (v := ?_) (a' := ?_) #[true, true, true, true, true, true, true, true, true, true, true, true, true, true, true, true, false] rfl rfl (any_of HT_.out (by kernel_rfl)) (fun _ _ _ h => h) (Or.inl ⟨by rfl, ?_⟩) ?_ ?_
                                            rotate_left
                                            · intro w'
                                              go_simp
                                              with_reducible rfl
                                            rotate_left
                                            · simp only [Act.put, List.setIfInBounds_toArray, List.set_cons_zero, List.set_cons_succ, i64_w, i32_w]
                                              rfl
                                            refine pure_ (i := 16) (N := some 3) (v := ?_) (a' := ?_) #[true, true, true, true, true, true, true, true, true, true, true, true, true, true, true, true, true] rfl rfl (any_of HT_.out (by kernel_rfl)) (fun _ _ _ h => h) (Or.inl ⟨by rfl, ?_⟩) ?_ ?_
                                            rotate_left
                                            · intro w'
                                              go_simp
                                              with_reducible rfl
                                            rotate_left
                                            · simp only [Act.put, List.setIfInBounds_toArray, List.set_cons_zero, List.set_cons_succ, i64_w, i32_w]
                                              rfl
                                            refine done_ (done_of HT_.out (by kernel_rfl)) ?_
                                            try go_wp2
                                            go_roundg k4
                                            case measure => have := HK1.out; have := HK2.out; have := HJ19.out; have := HK4.out; omega
                                            case rel => exact ⟨((x3_19 ++ (strOfNums y122)) ++ (a0.extract ((ji72) : Int).toNat ((wrap64 (x4_1 + (wrap64 (8 * (wrap64 (x8_4 + 1)))))) : Int).toNat)), (wrap64 ((wrap64 (x4_1 + (wrap64 (8 * x8_4)))) + 8)), (by first | rfl | (simp; done) | (simp only [← hji72] <;> (first | rfl | simp)) | (simp [*]; done)), (by first | rfl | (simp; done) | (simp [*]; done)), H', ⟨by have := HK1.out; have := HK2.out; have := HJ19.out; have := HK4.out; omega⟩, ⟨by repeat (first | (with_reducible first | exact HB.out | apply below_alloc | apply pw_below_drewN | apply below_drew1) | exact HB.out)⟩⟩
                                          · rw [if_neg c76] at H
                                            exact absurd H (by simp)
                                        · rw [if_neg c75] at H
                                          exact absurd H (by simp)
                                      · rw [if_neg c74] at H
                                        exact absurd H (by simp)
                                    · rw [if_neg c73] at H
                                      exact absurd H (by simp)
                                  · rw [if_neg c71] at H
                                    exact absurd H (by simp)
                          · rw [if_neg c42] at H
                            have c42b0 : (t101 == 255) = false := beq_eq_false_iff_ne.mpr c42
                            have c42b1 : (t101 != 255) = true := bne_iff_ne.mpr c42
                            have H' := Aside0.mk H
                            clear H
                            go_wp2
                            go_roundg kj19
                            case measure => have := HK1.out; have := HK2.out; have := HJ19.out; omega
                            case rel => exact ⟨(x3_19), (wrap64 ((wrap64 (x4_1 + (wrap64 (8 * x8_19)))) + 8)), (by first | rfl | (simp; done) | (simp [*]; done)), (by first | rfl | (simp; done) | (simp [*]; done)), H', ⟨by have := HK1.out; have := HK2.out; have := HJ19.out; omega⟩, ⟨by repeat (first | (with_reducible first | exact HB.out | apply below_alloc | apply pw_below_drewN | apply below_drew1) | exact HB.out)⟩⟩
              · rw [if_neg c7] at H
                exact absurd H (by simp)
            · rw [if_neg c5] at H
              exact absurd H (by simp)
          · rw [if_neg c4] at H
            exact absurd H (by simp)
        · rw [if_neg c3] at H
          exact absurd H (by simp)
      · rw [if_neg c2] at H
        have c2b0 : decide (x4_1 < (a0.size : Int)) = false := decide_eq_false c2
        clear c2
        obtain rfl := Option.some.inj H
        go_wp2
        go_ret
        exact ⟨by first | rfl | (simp [errW_none, errW_some] <;> rfl) | (simp [*, errW_none, errW_some] <;> rfl) | (simp only [Bool.and_eq_true, beq_iff_eq, Bool.not_eq_true', Bool.not_eq_eq_eq_not, Bool.not_true, Bool.not_false] at *; simp [*]), by repeat (first | (with_reducible first | exact HB.out | apply below_alloc | apply pw_below_drewN | apply below_drew1) | exact HB.out)⟩

end Go.Proofs.YteocobbddngllaaDoor.P
