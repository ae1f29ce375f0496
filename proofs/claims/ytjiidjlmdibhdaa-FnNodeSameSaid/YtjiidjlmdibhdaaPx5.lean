-- PRINTED by print.py (a twelfth state) out of the translation. Not trusted: Lean checks it.
import Derived.Test.YtjiidjlmdibhdaaPx0
namespace Go.Proofs.Ytjiidjlmdibhdaa.P
open Go.RowKit Go.Proofs.YtjiidjlmdibhdaaW.PrintWords Go.Proofs.YtjiidjlmdibhdaaW.PrintLast Go.Proofs.YtjiidjlmdibhdaaW.PrintMore
attribute [local go_sem] max2_int min2_int max_two min_two max_three min_three max_four min_four   -- for this text's walks alone
set_option linter.unusedVariables false
set_option linter.unusedSimpArgs false

/-! ### spec_l2Bits: function 50 -/
def spec_l2Bits.f (a0 : Int) : Option (Int) := (some (([0, 1, 8, 16, 32, 64, 64] : List Int) : List Int)).bind fun y145 => (if 0 ≤ a0 then (if a0 < (y145.length : Int) then (some (rd y145 a0)) else (none)) else (none))
set_option maxHeartbeats 8000000 in
set_option maxRecDepth 100000 in
theorem spec_l2Bits.calls (a0 : Int) (r : Int) (w : World) (h : spec_l2Bits.f a0 = some r) :
  Calls Try.prog 50 #[.int .i64 a0] w fun e w' => e = .returned (.int .i64 r) ∧ Below w.heap.size w w' := by
 have HB := Aside0.mk (Below.refl w.heap.size w)
 have H : ((some (([0, 1, 8, 16, 32, 64, 64] : List Int) : List Int)).bind fun y145 => (if 0 ≤ a0 then (if a0 < (y145.length : Int) then (some (rd y145 a0)) else (none)) else (none))) = some r := h
 clear h
 obtain ⟨y145, hy145⟩ : ∃ y_ : List Int, y_ = (([0, 1, 8, 16, 32, 64, 64] : List Int)) := ⟨_, rfl⟩
 replace H : (if 0 ≤ a0 then (if a0 < (y145.length : Int) then (some (rd y145 a0)) else (none)) else (none)) = some r := by first | (rw [hy145]; with_reducible exact H) | (have H2_ := (Option.bind_some _ _).symm.trans H; rw [hy145]; with_reducible exact H2_) | (have H2_ := (Option.bind_some _ _).symm.trans H; with_reducible exact H2_) | with_reducible exact H | (rw [hy145]; exact H) | exact H
 have Ny145 := Aside0.mk hy145
 clear hy145
 by_cases c2 : 0 ≤ a0
 ·rw [if_pos c2] at H
  have c2b0 : decide (0 ≤ a0) = true := decide_eq_true c2
  clear c2
  by_cases c3 : a0 < (y145.length : Int)
  ·rw [if_pos c3] at H
   have c3b0 : decide (a0 < (y145.length : Int)) = true := decide_eq_true c3
   clear c3
   obtain rfl := Option.some.inj H
   go_enter Try.func50, Try.ntmps50
   go_wp2_with (first | ((with_reducible refine gate_dst (N := 3) rfl ?_); refine Kd.R_lit (Kd.int .i64) _ 3 ?hg (N := 3) ?hd (xs := ([0, 1, 8, 16, 32, 64, 64] : List Int)) (inner := [.int .i64 0, .int .i64 1, .int .i64 8, .int .i64 16, .int .i64 32, .int .i64 64, .int .i64 64]) (ok := fun _ => True) (okp := fun _ => True) ?hr ?hp (fun _ hk => hk) trivial (Below.refl _ _) (Nat.le_refl _) (by simp) ?_; (case hd => rfl); (case hg => rfl); (case hr => first | (go_simp; done) | (go_simp; rfl)); (case hp => exact (Reps.one (show Kd.M (Kd.int .i64) _ _ _ 0 [.int .i64 0] from rfl) (Reps.one (show Kd.M (Kd.int .i64) _ _ _ 1 [.int .i64 1] from rfl) (Reps.one (show Kd.M (Kd.int .i64) _ _ _ 8 [.int .i64 8] from rfl) (Reps.one (show Kd.M (Kd.int .i64) _ _ _ 16 [.int .i64 16] from rfl) (Reps.one (show Kd.M (Kd.int .i64) _ _ _ 32 [.int .i64 32] from rfl) (Reps.one (show Kd.M (Kd.int .i64) _ _ _ 64 [.int .i64 64] from rfl) (Reps.one (show Kd.M (Kd.int .i64) _ _ _ 64 [.int .i64 64] from rfl) (Reps.none _ _))))))))); intro v146 w4 ho5 hb hg_ hnew_; clear hg_ hnew_; (first | rw [← Ny145.out] at ho5 | (simp only [Int.reduceToNat] at ho5; rw [← Ny145.out] at ho5)); have n0_ := Aside0.mk (Kd.R_lower ho5 (below_size (by repeat (first | (with_reducible first | exact HB.out | apply below_alloc | apply pw_below_drewN | apply below_drew1) | exact HB.out)))); have n1_ := Aside0.mk (below_step (by repeat (first | (with_reducible first | exact HB.out | apply below_alloc | apply pw_below_drewN | apply below_drew1) | exact HB.out)) hb); clear HB; have HO147 := n0_; have HB := n1_; clear n0_ n1_; clear hb ho5; obtain ⟨Ao6, co6, eo6⟩ := Kd.R_slice HO147.out; subst eo6; have p148 : 0 ≤ (a0 : Int) := of_decide_eq_true (by first | (with_reducible assumption) | assumption); have q148 : a0 < (y145.length : Int) := of_decide_eq_true (by first | (with_reducible assumption) | assumption); obtain ⟨ad148, e148, qa⟩ := Kd.at_int (Kd.R_reads' HO147.out).2.2 a0 p148 q148; cases e148; replace p148 := eq_true p148; replace q148 := eq_true q148))
   go_ret
   exact ⟨by first | rfl | (simp [errW_none, errW_some] <;> rfl) | (simp [*, errW_none, errW_some] <;> rfl) | (simp only [Bool.and_eq_true, beq_iff_eq, Bool.not_eq_true', Bool.not_eq_eq_eq_not, Bool.not_true, Bool.not_false] at *; simp [*]), by repeat (first | (with_reducible first | exact HB.out | apply below_alloc | apply pw_below_drewN | apply below_drew1) | exact HB.out)⟩
  ·rw [if_neg c3] at H
   exact absurd H (by simp)
 ·rw [if_neg c2] at H
  exact absurd H (by simp)

/-! ### spec_l4Bytes: function 46 -/
def spec_l4Bytes.f (a0 : Int) (a1 : Int) : Option (Int) := (spec_l2Bits.f a0).bind fun t149 => (some (wrap64 (Int.tdiv (wrap64 ((wrap64 (t149 * a1)) + 7)) 8)))
set_option maxHeartbeats 8000000 in
set_option maxRecDepth 100000 in
theorem spec_l4Bytes.calls (a0 : Int) (a1 : Int) (r : Int) (w : World) (h : spec_l4Bytes.f a0 a1 = some r) :
  Calls Try.prog 46 #[.int .i64 a0, .int .i64 a1] w fun e w' => e = .returned (.int .i64 r) ∧ Below w.heap.size w w' := by
 have HB := Aside0.mk (Below.refl w.heap.size w)
 have H : ((spec_l2Bits.f a0).bind fun t149 => (some (wrap64 (Int.tdiv (wrap64 ((wrap64 (t149 * a1)) + 7)) 8)))) = some r := h
 clear h
 replace H := Option.bind_eq_some_iff.mp H
 obtain ⟨t149, A30, H⟩ := H
 replace H : (some (wrap64 (Int.tdiv (wrap64 ((wrap64 (t149 * a1)) + 7)) 8))) = some r := H
 have A3 := Aside0.mk A30
 clear A30
 obtain rfl := Option.some.inj H
 go_enter Try.func46, Try.ntmps46
 go_wp2_with (first | ((with_reducible refine gate_callee (f := 50) rfl ?_); refine goesL_ (some 6) rfl rfl Try.func50 (by kernel_rfl) rfl #[.int .i64 a0] rfl (by (try simp only [List.map_toArray, List.map_cons, List.map_nil]); first | done | rfl | (simp only [List.length_drop, List.length_take]; rfl)) ?_; (with_reducible refine (spec_l2Bits.calls a0 t149 _ A3.out).mono ?_); rintro e w4 ⟨rfl, hb⟩; refine ⟨_, rfl, ?_⟩; have n0_ := Aside0.mk (below_step (by repeat (first | (with_reducible first | exact HB.out | apply below_alloc | apply pw_below_drewN | apply below_drew1) | exact HB.out)) hb); clear HB; have HB := n0_; clear n0_; (try clear hb); (try clear hb2); (try clear hk); (try clear hi)))
 go_ret
 exact ⟨by first | rfl | (simp [errW_none, errW_some] <;> rfl) | (simp [*, errW_none, errW_some] <;> rfl) | (simp only [Bool.and_eq_true, beq_iff_eq, Bool.not_eq_true', Bool.not_eq_eq_eq_not, Bool.not_true, Bool.not_false] at *; simp [*]), by repeat (first | (with_reducible first | exact HB.out | apply below_alloc | apply pw_below_drewN | apply below_drew1) | exact HB.out)⟩

/-! ### spec_l4Cut: function 40 -/
def spec_l4Cut.f (a0 : ByteArray) (a1 : Int) (a2 : Int) : Option (ByteArray) := (spec_l4Bytes.f a1 a2).bind fun t150 => (if 0 ≤ t150 then (if t150 ≤ (a0.size : Int) then (if a1 = 1 then (if (Int.tmod a2 8) = 0 then (some (a0.extract 0 (t150 : Int).toNat)) else (if 0 ≤ (wrap64 (t150 - 1)) then (if (wrap64 (t150 - 1)) ≤ ((a0.extract 0 (t150 : Int).toNat).size : Int) then (if (wrap64 (t150 - 1)) < ((a0.extract 0 (t150 : Int).toNat).size : Int) then (if 0 ≤ (Int.tmod a2 8) then ((some (([Go.bits .and .u8 (bt (a0.extract 0 (t150 : Int).toNat) (wrap64 (t150 - 1))) (((shl .u8 1 (Int.tmod a2 8)) - 1) % 256)] : List Int) : List Int)).bind fun y151 => (if ((a0.extract 0 (t150 : Int).toNat).extract 0 ((wrap64 (t150 - 1)) : Int).toNat).size + (strOfNums y151).size ≤ 9223372036854775807 then (some (((a0.extract 0 (t150 : Int).toNat).extract 0 ((wrap64 (t150 - 1)) : Int).toNat) ++ (strOfNums y151))) else (none))) else (none)) else (none)) else (none)) else (none))) else (some (a0.extract 0 (t150 : Int).toNat))) else (none)) else (none))
def spec_l4Cut.T5 : Bool × List (List Nat × List Nat) := (true, [([], []), ([], []), ([1], [1]), ([0, 2], [0, 2]), ([], []), ([], []), ([5], [5]), ([4, 6], [4, 6]), ([], []), ([8], [8]), ([9], [9]), ([7, 10], [7, 10]), ([11], [11]), ([12], [12]), ([3, 13], [3, 13]), ([14, 0, 1, 2, 3, 4, 5, 6, 7, 8, 9, 10, 11, 12, 13, 14], [0, 4, 14])])
def spec_l4Cut.B5 : List Nat := [0, 0, 2, 7, 0, 0, 32, 112, 0, 256, 768, 2032, 4080, 8176, 16383, 32767]
theorem spec_l4Cut.tab5 : rtab .any (opsOf Try.f40 5) = spec_l4Cut.T5 := by kernel_rfl
theorem spec_l4Cut.bits5 : waitsOk spec_l4Cut.T5.2 spec_l4Cut.B5 = true := by kernel_rfl
open Go.Proofs.YtjiidjlmdibhdaaW.PrintWords renaming below_alloc → js, pw_below_drewN → jt, below_drew1 → ju
set_option maxHeartbeats 8000000 in
set_option maxRecDepth 100000 in
theorem spec_l4Cut.calls (a0 : ByteArray) (a1 : Int) (a2 : Int) (r : ByteArray) (w : World) (h : spec_l4Cut.f a0 a1 a2 = some r) :
  Calls Try.prog 40 #[.string a0, .int .i64 a1, .int .i64 a2] w fun e w' => e = .returned (.string r) ∧ Below w.heap.size w w' := by
 have HB := Aside0.mk (Below.refl w.heap.size w)
 have H : ((spec_l4Bytes.f a1 a2).bind fun t150 => (if 0 ≤ t150 then (if t150 ≤ (a0.size : Int) then (if a1 = 1 then (if (Int.tmod a2 8) = 0 then (some (a0.extract 0 (t150 : Int).toNat)) else (if 0 ≤ (wrap64 (t150 - 1)) then (if (wrap64 (t150 - 1)) ≤ ((a0.extract 0 (t150 : Int).toNat).size : Int) then (if (wrap64 (t150 - 1)) < ((a0.extract 0 (t150 : Int).toNat).size : Int) then (if 0 ≤ (Int.tmod a2 8) then ((some (([Go.bits .and .u8 (bt (a0.extract 0 (t150 : Int).toNat) (wrap64 (t150 - 1))) (((shl .u8 1 (Int.tmod a2 8)) - 1) % 256)] : List Int) : List Int)).bind fun y151 => (if ((a0.extract 0 (t150 : Int).toNat).extract 0 ((wrap64 (t150 - 1)) : Int).toNat).size + (strOfNums y151).size ≤ 9223372036854775807 then (some (((a0.extract 0 (t150 : Int).toNat).extract 0 ((wrap64 (t150 - 1)) : Int).toNat) ++ (strOfNums y151))) else (none))) else (none)) else (none)) else (none)) else (none))) else (some (a0.extract 0 (t150 : Int).toNat))) else (none)) else (none))) = some r := h
 clear h
 replace H := Option.bind_eq_some_iff.mp H
 obtain ⟨t150, A40, H⟩ := H
 replace H : (if 0 ≤ t150 then (if t150 ≤ (a0.size : Int) then (if a1 = 1 then (if (Int.tmod a2 8) = 0 then (some (a0.extract 0 (t150 : Int).toNat)) else (if 0 ≤ (wrap64 (t150 - 1)) then (if (wrap64 (t150 - 1)) ≤ ((a0.extract 0 (t150 : Int).toNat).size : Int) then (if (wrap64 (t150 - 1)) < ((a0.extract 0 (t150 : Int).toNat).size : Int) then (if 0 ≤ (Int.tmod a2 8) then ((some (([Go.bits .and .u8 (bt (a0.extract 0 (t150 : Int).toNat) (wrap64 (t150 - 1))) (((shl .u8 1 (Int.tmod a2 8)) - 1) % 256)] : List Int) : List Int)).bind fun y151 => (if ((a0.extract 0 (t150 : Int).toNat).extract 0 ((wrap64 (t150 - 1)) : Int).toNat).size + (strOfNums y151).size ≤ 9223372036854775807 then (some (((a0.extract 0 (t150 : Int).toNat).extract 0 ((wrap64 (t150 - 1)) : Int).toNat) ++ (strOfNums y151))) else (none))) else (none)) else (none)) else (none)) else (none))) else (some (a0.extract 0 (t150 : Int).toNat))) else (none)) else (none)) = some r := H
 have A4 := Aside0.mk A40
 clear A40
 by_cases c5 : 0 ≤ t150
 ·rw [if_pos c5] at H
  have c5b0 := eq_true c5
  have c5b1 : decide (0 ≤ t150) = true := decide_eq_true c5
  clear c5
  by_cases c6 : t150 ≤ (a0.size : Int)
  ·rw [if_pos c6] at H
   have c6b0 := eq_true c6
   have c6b1 : decide (t150 ≤ (a0.size : Int)) = true := decide_eq_true c6
   clear c6
   by_cases c7 : a1 = 1
   ·rw [if_pos c7] at H
    have c7b0 : (a1 == 1) = true := beq_iff_eq.mpr c7
    have c7b1 : (a1 != 1) = false := bne_eq_false_iff_eq.mpr c7
    clear c7
    by_cases c8 : (Int.tmod a2 8) = 0
    ·rw [if_pos c8] at H
     have c8b0 : ((Int.tmod a2 8) == 0) = true := beq_iff_eq.mpr c8
     have c8b1 : ((Int.tmod a2 8) != 0) = false := bne_eq_false_iff_eq.mpr c8
     clear c8
     obtain rfl := Option.some.inj H
     go_enter Try.func40, Try.ntmps40
     go_wp2_with (first | ((with_reducible refine gate_callee (f := 46) rfl ?_); refine goesL_ (some 12) rfl rfl Try.func46 (by kernel_rfl) rfl #[.int .i64 a1, .int .i64 a2] rfl (by (try simp only [List.map_toArray, List.map_cons, List.map_nil]); first | done | rfl | (simp only [List.length_drop, List.length_take]; rfl)) ?_; (with_reducible refine (spec_l4Bytes.calls a1 a2 t150 _ A4.out).mono ?_); rintro e w9 ⟨rfl, hb⟩; refine ⟨_, rfl, ?_⟩; have n0_ := Aside0.mk (below_step (by repeat (first | (with_reducible first | exact HB.out | apply js | apply jt | apply ju) | exact HB.out)) hb); clear HB; have HB := n0_; clear n0_; (try clear hb); (try clear hb2); (try clear hk); (try clear hi)))
     go_ret
     exact ⟨by first | rfl | (simp [errW_none, errW_some] <;> rfl) | (simp [*, errW_none, errW_some] <;> rfl) | (simp only [Bool.and_eq_true, beq_iff_eq, Bool.not_eq_true', Bool.not_eq_eq_eq_not, Bool.not_true, Bool.not_false] at *; simp [*]), by repeat (first | (with_reducible first | exact HB.out | apply js | apply jt | apply ju) | exact HB.out)⟩
    ·rw [if_neg c8] at H
     have c8b0 : ((Int.tmod a2 8) == 0) = false := beq_eq_false_iff_ne.mpr c8
     have c8b1 : ((Int.tmod a2 8) != 0) = true := bne_iff_ne.mpr c8
     obtain ⟨ji10, hji10⟩ : ∃ j_ : Int, (wrap64 (t150 - 1)) = j_ := ⟨_, rfl⟩
     replace H : (if 0 ≤ (ji10) then (if (ji10) ≤ ((a0.extract 0 (t150 : Int).toNat).size : Int) then (if (ji10) < ((a0.extract 0 (t150 : Int).toNat).size : Int) then (if 0 ≤ (Int.tmod a2 8) then ((some (([Go.bits .and .u8 (bt (a0.extract 0 (t150 : Int).toNat) (ji10)) (((shl .u8 1 (Int.tmod a2 8)) - 1) % 256)] : List Int) : List Int)).bind fun y151 => (if ((a0.extract 0 (t150 : Int).toNat).extract 0 ((ji10) : Int).toNat).size + (strOfNums y151).size ≤ 9223372036854775807 then (some (((a0.extract 0 (t150 : Int).toNat).extract 0 ((ji10) : Int).toNat) ++ (strOfNums y151))) else (none))) else (none)) else (none)) else (none)) else (none)) = some r := by first | (rw [hji10] at H; exact H) | (simp only [hji10] at H ⊢; exact H)
     (try rw [hji10] at A4)
     have hji10w : (IntKind.i64.wrap (t150 - 1)) = ji10 := (i64_w _).trans hji10
     by_cases c11 : 0 ≤ (ji10)
     ·rw [if_pos c11] at H
      have c11b0 := eq_true c11
      have c11b1 : decide (0 ≤ (ji10)) = true := decide_eq_true c11
      clear c11
      by_cases c12 : (ji10) ≤ ((a0.extract 0 (t150 : Int).toNat).size : Int)
      ·rw [if_pos c12] at H
       have c12b0 := eq_true c12
       have c12b1 : decide ((ji10) ≤ ((a0.extract 0 (t150 : Int).toNat).size : Int)) = true := decide_eq_true c12
       clear c12
       by_cases c13 : (ji10) < ((a0.extract 0 (t150 : Int).toNat).size : Int)
       ·rw [if_pos c13] at H
        have c13b0 : decide ((ji10) < ((a0.extract 0 (t150 : Int).toNat).size : Int)) = true := decide_eq_true c13
        clear c13
        have hmx : max t150 0 = t150 := by have := of_eq_true c5b0; omega
        have hsx : ((a0.extract 0 (t150 : Int).toNat).size : Int) = t150 := by have := of_eq_true c5b0; have := of_eq_true c6b0; rw [ByteArray.size_extract]; omega
        have hx1 : (ji10 ≤ t150) = True := by rw [← hsx]; exact c12b0
        have hx2 : (ji10 < t150) = True := by rw [← hsx]; exact eq_true (of_decide_eq_true c13b0)
        obtain ⟨ji15, hji15⟩ : ∃ j_ : Int, (Int.tmod a2 8) = j_ := ⟨_, rfl⟩
        replace H : (if 0 ≤ (ji15) then ((some (([Go.bits .and .u8 (bt (a0.extract 0 (t150 : Int).toNat) (ji10)) (((shl .u8 1 (ji15)) - 1) % 256)] : List Int) : List Int)).bind fun y151 => (if ((a0.extract 0 (t150 : Int).toNat).extract 0 ((ji10) : Int).toNat).size + (strOfNums y151).size ≤ 9223372036854775807 then (some (((a0.extract 0 (t150 : Int).toNat).extract 0 ((ji10) : Int).toNat) ++ (strOfNums y151))) else (none))) else (none)) = some r := by first | (rw [hji15] at H; exact H) | (simp only [hji15] at H ⊢; exact H)
        (try rw [hji15] at c8b0)
        (try rw [hji15] at c8b1)
        (try rw [hji15] at A4)
        by_cases c16 : 0 ≤ (ji15)
        ·rw [if_pos c16] at H
         have c16b0 := eq_true c16
         have c16b1 : decide (0 ≤ (ji15)) = true := decide_eq_true c16
         clear c16
         obtain ⟨ji17, hji17⟩ : ∃ j_ : Int, (shl .u8 1 (ji15)) = j_ := ⟨_, rfl⟩
         replace H : ((some (([Go.bits .and .u8 (bt (a0.extract 0 (t150 : Int).toNat) (ji10)) (((ji17) - 1) % 256)] : List Int) : List Int)).bind fun y151 => (if ((a0.extract 0 (t150 : Int).toNat).extract 0 ((ji10) : Int).toNat).size + (strOfNums y151).size ≤ 9223372036854775807 then (some (((a0.extract 0 (t150 : Int).toNat).extract 0 ((ji10) : Int).toNat) ++ (strOfNums y151))) else (none))) = some r := by first | (rw [hji17] at H; exact H) | (simp only [hji17] at H ⊢; exact H)
         (try rw [hji17] at A4)
         have hji17_ : (IntKind.u8.wrap (1 * 2 ^ min (ji15).toNat 8)) = ji17 := hji17
         have hji17z : (ji15) ≤ 8 → (IntKind.u8.wrap (1 * 2 ^ (ji15).toNat)) = ji17 := shl_small hji17
         have hji17u : (IntKind.u8.wrap (2 ^ min (ji15).toNat 8)) = ji17 := by have h_ := hji17_; rw [Int.one_mul] at h_; exact h_
         have hji17v : (ji15) ≤ 8 → (IntKind.u8.wrap (2 ^ (ji15).toNat)) = ji17 := fun hle_ => by have h_ := hji17z hle_; rw [Int.one_mul] at h_; exact h_
         obtain ⟨y151, hy151⟩ : ∃ y_ : List Int, y_ = (([Go.bits .and .u8 (bt (a0.extract 0 (t150 : Int).toNat) (ji10)) (((ji17) - 1) % 256)] : List Int)) := ⟨_, rfl⟩
         replace H : (if ((a0.extract 0 (t150 : Int).toNat).extract 0 ((ji10) : Int).toNat).size + (strOfNums y151).size ≤ 9223372036854775807 then (some (((a0.extract 0 (t150 : Int).toNat).extract 0 ((ji10) : Int).toNat) ++ (strOfNums y151))) else (none)) = some r := by first | (rw [hy151]; with_reducible exact H) | (have H2_ := (Option.bind_some _ _).symm.trans H; rw [hy151]; with_reducible exact H2_) | (have H2_ := (Option.bind_some _ _).symm.trans H; with_reducible exact H2_) | with_reducible exact H | (rw [hy151]; exact H) | exact H
         have Ny151 := Aside0.mk hy151
         clear hy151
         by_cases c18 : ((a0.extract 0 (t150 : Int).toNat).extract 0 ((ji10) : Int).toNat).size + (strOfNums y151).size ≤ 9223372036854775807
         ·rw [if_pos c18] at H
          have c18b0 := eq_true c18
          have c18b1 : decide (((a0.extract 0 (t150 : Int).toNat).extract 0 ((ji10) : Int).toNat).size + (strOfNums y151).size ≤ 9223372036854775807) = true := decide_eq_true c18
          try have c18b2 : (9223372036854775807 < ((a0.extract 0 (t150 : Int).toNat).extract 0 ((ji10) : Int).toNat).size + (strOfNums y151).size) = False := eq_false (Nat.not_lt.2 c18)
          have hx5 : (9223372036854775807 < min ji10.toNat t150.toNat + (strOfNums y151).size) = False := by
           have e : ((a0.extract 0 (t150 : Int).toNat).extract 0 ((ji10) : Int).toNat).size = min ji10.toNat t150.toNat := by have := of_eq_true c6b0; rw [ByteArray.size_extract, ByteArray.size_extract]; omega
           rw [e] at c18; exact eq_false (Nat.not_lt.2 c18)
          obtain rfl := Option.some.inj H
          go_enter Try.func40, Try.ntmps40
          try go_wp2_with (first | ((with_reducible refine gate_callee (f := 46) rfl ?_); refine goesL_ (some 12) rfl rfl Try.func46 (by kernel_rfl) rfl #[.int .i64 a1, .int .i64 a2] rfl (by (try simp only [List.map_toArray, List.map_cons, List.map_nil]); first | done | rfl | (simp only [List.length_drop, List.length_take]; rfl)) ?_; (with_reducible refine (spec_l4Bytes.calls a1 a2 t150 _ A4.out).mono ?_); rintro e w19 ⟨rfl, hb⟩; refine ⟨_, rfl, ?_⟩; have n0_ := Aside0.mk (below_step (by repeat (first | (with_reducible first | exact HB.out | apply js | apply jt | apply ju) | exact HB.out)) hb); clear HB; have HB := n0_; clear n0_; (try clear hb); (try clear hb2); (try clear hk); (try clear hi)))
          have n0_ := Aside0.mk (ju HB.out)
          clear HB
          have HB := n0_
          clear n0_
          have p14 : 0 ≤ ((ji10) : Int) := of_decide_eq_true (by first | (with_reducible assumption) | assumption)
          have q14 : (ji10) < ((a0.extract 0 (t150 : Int).toNat).size : Int) := of_decide_eq_true (by first | (with_reducible assumption) | assumption)
          have hx14 := bt_at (a0.extract 0 (t150 : Int).toNat) (ji10)
          replace p14 := eq_true p14
          replace q14 := eq_true q14
          refine start_ (n := 16) (S := fun w' => True) (ds := []) #[false, false, false, false, false, false, false, false, false, false, false, false, false, false, false, false] (by kernel_rfl) rfl rfl trivial (fun hHeld => ?_); refine with_tabW spec_l4Cut.tab5 spec_l4Cut.bits5 (fun HT_ HW_ => ?_)
          generalize w19.drew = w20 at HB hHeld ⊢
          refine pure_ (i := 0) (N := some 24) (v := ?_) (a' := ?_) #[true, false, false, false, false, false, false, false, false, false, false, false, false, false, false, false] rfl rfl (any_of HT_.out (by kernel_rfl)) (fun _ _ _ h => h) (Or.inl ⟨by rfl, ?_⟩) ?_ ?_
          rotate_left
          ·intro w'
           go_simp
           with_reducible rfl
          rotate_left
          ·simp only [Act.put, List.setIfInBounds_toArray, List.set_cons_zero, List.set_cons_succ, i64_w, i32_w]
           rfl
          refine pure_ (i := 1) (N := some 25) (v := ?_) (a' := ?_) #[true, true, false, false, false, false, false, false, false, false, false, false, false, false, false, false] rfl rfl (any_of HT_.out (by kernel_rfl)) (fun _ _ _ h => h) (Or.inl ⟨by rfl, ?_⟩) ?_ ?_
          rotate_left
          ·intro w'
           go_simp
           with_reducible rfl
          rotate_left
          ·simp only [Act.put, List.setIfInBounds_toArray, List.set_cons_zero, List.set_cons_succ, i64_w, i32_w]
           rfl
          refine pure_ (i := 2) (N := some 26) (v := ?_) (a' := ?_) #[true, true, true, false, false, false, false, false, false, false, false, false, false, false, false, false] rfl rfl (any_of HT_.out (by kernel_rfl)) (fun _ _ _ h => h) (Or.inl ⟨by rfl, ?_⟩) ?_ ?_
          rotate_left
          ·intro w'
           go_simp
           with_reducible rfl
          rotate_left
          ·simp only [Act.put, List.setIfInBounds_toArray, List.set_cons_zero, List.set_cons_succ, i64_w, i32_w]
           rfl
          refine pure_ (i := 3) (N := some 27) (v := ?_) (a' := ?_) #[true, true, true, true, false, false, false, false, false, false, false, false, false, false, false, false] rfl rfl (any_of HT_.out (by kernel_rfl)) (fun _ _ _ h => h) (Or.inl ⟨by rfl, ?_⟩) ?_ ?_
          rotate_left
          ·intro w'
           go_simp
           with_reducible rfl
          rotate_left
          ·simp only [Act.put, List.setIfInBounds_toArray, List.set_cons_zero, List.set_cons_succ, i64_w, i32_w]
           rfl
          refine pure_ (i := 4) (N := some 28) (v := ?_) (a' := ?_) #[true, true, true, true, true, false, false, false, false, false, false, false, false, false, false, false] rfl rfl (any_of HT_.out (by kernel_rfl)) (fun _ _ _ h => h) (Or.inl ⟨by rfl, ?_⟩) ?_ ?_
          rotate_left
          ·intro w'
           go_simp
           with_reducible rfl
          rotate_left
          ·simp only [Act.put, List.setIfInBounds_toArray, List.set_cons_zero, List.set_cons_succ, i64_w, i32_w]
           rfl
          refine pure_ (i := 5) (N := some 29) (v := ?_) (a' := ?_) #[true, true, true, true, true, true, false, false, false, false, false, false, false, false, false, false] rfl rfl (any_of HT_.out (by kernel_rfl)) (fun _ _ _ h => h) (Or.inl ⟨by rfl, ?_⟩) ?_ ?_
          rotate_left
          ·intro w'
           go_simp
           with_reducible rfl
          rotate_left
          ·simp only [Act.put, List.setIfInBounds_toArray, List.set_cons_zero, List.set_cons_succ, i64_w, i32_w]
           rfl
          refine pure_ (i := 6) (N := some 30) (v := ?_) (a' := ?_) #[true, true, true, true, true, true, true, false, false, false, false, false, false, false, false, false] rfl rfl (any_of HT_.out (by kernel_rfl)) (fun _ _ _ h => h) (Or.inl ⟨by rfl, ?_⟩) ?_ ?_
          rotate_left
          ·intro w'
           go_simp
           with_reducible rfl
          rotate_left
          ·simp only [Act.put, List.setIfInBounds_toArray, List.set_cons_zero, List.set_cons_succ, i64_w, i32_w]
           rfl
          refine pure_ (i := 8) (N := some 32) (v := ?_) (a' := ?_) #[true, true, true, true, true, true, true, false, true, false, false, false, false, false, false, false] rfl rfl (any_of HT_.out (by kernel_rfl)) (fun _ _ _ h => h) (Or.inl ⟨by rfl, ?_⟩) ?_ ?_
          rotate_left
          ·intro w'
           go_simp
           with_reducible rfl
          rotate_left
          ·simp only [Act.put, List.setIfInBounds_toArray, List.set_cons_zero, List.set_cons_succ, i64_w, i32_w]
           rfl
          refine pure_ (i := 9) (N := some 33) (v := ?_) (a' := ?_) #[true, true, true, true, true, true, true, false, true, true, false, false, false, false, false, false] rfl rfl (any_of HT_.out (by kernel_rfl)) (fun _ _ _ h => h) (Or.inl ⟨by rfl, ?_⟩) ?_ ?_
          rotate_left
          ·intro w'
           go_simp
           with_reducible rfl
          rotate_left
          ·simp only [Act.put, List.setIfInBounds_toArray, List.set_cons_zero, List.set_cons_succ, i64_w, i32_w]
           rfl
          refine pure_ (i := 10) (N := some 34) (v := ?_) (a' := ?_) #[true, true, true, true, true, true, true, false, true, true, true, false, false, false, false, false] rfl rfl (any_of HT_.out (by kernel_rfl)) (fun _ _ _ h => h) (Or.inl ⟨by rfl, ?_⟩) ?_ ?_
          rotate_left
          ·intro w'
           go_simp
           with_reducible rfl
          rotate_left
          ·simp only [Act.put, List.setIfInBounds_toArray, List.set_cons_zero, List.set_cons_succ, i64_w, i32_w]
           rfl
          refine take_ (i := 7) (N := some 31) (v := ?_) (a' := ?_) #[true, true, true, true, true, true, true, true, true, true, true, false, false, false, false, false] rfl rfl (take_ofW HT_.out HW_.out (by kernel_rfl)) (fun _ _ _ h => h) (Or.inl ⟨by rfl, ?_⟩) hHeld ?_ ?_
          rotate_left
          ·intro w' _
           go_simp
           with_reducible rfl
          rotate_left
          ·simp only [Act.put, List.setIfInBounds_toArray, List.set_cons_zero, List.set_cons_succ, i64_w, i32_w]
           rfl
          refine pure_ (i := 11) (N := some 35) (v := ?_) (a' := ?_) #[true, true, true, true, true, true, true, true, true, true, true, true, false, false, false, false] rfl rfl (any_of HT_.out (by kernel_rfl)) (fun _ _ _ h => h) (Or.inl ⟨by rfl, ?_⟩) ?_ ?_
          rotate_left
          ·intro w'
           go_simp
           with_reducible rfl
          rotate_left
          ·simp only [Act.put, List.setIfInBounds_toArray, List.set_cons_zero, List.set_cons_succ, i64_w, i32_w]
           rfl
          refine one_ (i := 12) (N := some 36) #[true, true, true, true, true, true, true, true, true, true, true, true, true, false, false, false] rfl rfl (one_of HT_.out (by kernel_rfl)) (by decide) (fun K hK => ?_)
          refine Kd.R_lit_step (Kd.int .u8) _ 5 ?hg (N := 36) ?hd (xs := ([Go.bits .and .u8 (bt (a0.extract 0 (t150 : Int).toNat) (ji10)) (((ji17) - 1) % 256)] : List Int)) (inner := [.int .u8 (Go.bits .and .u8 (bt (a0.extract 0 (t150 : Int).toNat) (ji10)) (((ji17) - 1) % 256))]) (ok := fun _ => True) (okp := fun _ => True) ?hr ?hp (fun _ hk => hk) trivial (Below.refl _ _) (Nat.le_refl _) (by simp) ?_; (case hd => rfl); (case hg => rfl); (case hr => first | (go_simp; done) | (go_simp; rfl)); (case hp => exact (Reps.one (show Kd.M (Kd.int .u8) _ _ _ (Go.bits .and .u8 (bt (a0.extract 0 (t150 : Int).toNat) (ji10)) (((ji17) - 1) % 256)) [.int .u8 (Go.bits .and .u8 (bt (a0.extract 0 (t150 : Int).toNat) (ji10)) (((ji17) - 1) % 256))] from rfl) (Reps.none _ _)))
          intro v152 w21 ho22 hb hg_ hnew_
          clear hg_ hnew_
          (first | rw [← Ny151.out] at ho22 | (simp only [Int.reduceToNat] at ho22; rw [← Ny151.out] at ho22))
          have n0_ := Aside0.mk (Kd.R_lower ho22 (below_size (by repeat (first | (with_reducible first | exact HB.out | apply js | apply jt | apply ju) | exact HB.out))))
          have n1_ := Aside0.mk (below_step (by repeat (first | (with_reducible first | exact HB.out | apply js | apply jt | apply ju) | exact HB.out)) hb)
          clear HB
          have HO153 := n0_
          have HB := n1_
          clear n0_ n1_
          clear hb ho22
          refine hK.out _ _ trivial (fun hHeld => ?_)
          clear hK K
          refine norm_ (a' := ?_) ?_ ?_
          rotate_left
          ·show Act.put _ (some 36) _ = _
           simp only [Act.put, List.setIfInBounds_toArray, List.set_cons_zero, List.set_cons_succ, i64_w, i32_w]
           rfl
          refine one_ (i := 13) (N := some 37) #[true, true, true, true, true, true, true, true, true, true, true, true, true, true, false, false] rfl rfl (one_of HT_.out (by kernel_rfl)) (by decide) (fun K hK => ?_)
          have hcv23 := own_string (P := Try.prog) Try.underlying32 Try.underlying5 Try.underlying9 (Kd.own_of_R HO153.out)
          refine value_ (w1 := ?_) (v := ?_) (by rfl) rfl ?_ ?_
          rotate_left 2
          ·go_simp
           constructor
           ·rfl
           ·rfl
          clear hcv23
          refine hK.out _ _ trivial (fun hHeld => ?_)
          clear hK K
          refine norm_ (a' := ?_) ?_ ?_
          rotate_left
          ·show Act.put _ (some 37) _ = _
           simp only [Act.put, List.setIfInBounds_toArray, List.set_cons_zero, List.set_cons_succ, i64_w, i32_w]
           rfl
          refine pure_ (i := 14) (N := some 38) (v := ?_) (a' := ?_) #[true, true, true, true, true, true, true, true, true, true, true, true, true, true, true, false] rfl rfl (any_of HT_.out (by kernel_rfl)) (fun _ _ _ h => h) (Or.inl ⟨by rfl, ?_⟩) ?_ ?_
          rotate_left
          ·intro w'
           go_simp
           with_reducible rfl
          rotate_left
          ·simp only [Act.put, List.setIfInBounds_toArray, List.set_cons_zero, List.set_cons_succ, i64_w, i32_w]
           rfl
          refine pure_ (i := 15) (N := some 8) (v := ?_) (a' := ?_) #[true, true, true, true, true, true, true, true, true, true, true, true, true, true, true, true] rfl rfl (any_of HT_.out (by kernel_rfl)) (fun _ _ _ h => h) (Or.inl ⟨by rfl, ?_⟩) ?_ ?_
          rotate_left
          ·intro w'
           go_simp
           with_reducible rfl
          rotate_left
          ·simp only [Act.put, List.setIfInBounds_toArray, List.set_cons_zero, List.set_cons_succ, i64_w, i32_w]
           rfl
          refine done_ (done_of HT_.out (by kernel_rfl)) ?_
          try go_wp2
          go_ret
          exact ⟨by first | rfl | (simp [errW_none, errW_some] <;> rfl) | (simp only [← hji10, ← hji15, ← hji17]; first | rfl | (simp [errW_none, errW_some] <;> rfl)) | (simp [*, errW_none, errW_some] <;> rfl) | (simp only [Bool.and_eq_true, beq_iff_eq, Bool.not_eq_true', Bool.not_eq_eq_eq_not, Bool.not_true, Bool.not_false] at *; simp [*]), by repeat (first | (with_reducible first | exact HB.out | apply js | apply jt | apply ju) | exact HB.out)⟩
         ·rw [if_neg c18] at H
          exact absurd H (by simp)
        ·rw [if_neg c16] at H
         exact absurd H (by simp)
       ·rw [if_neg c13] at H
        exact absurd H (by simp)
      ·rw [if_neg c12] at H
       exact absurd H (by simp)
     ·rw [if_neg c11] at H
      exact absurd H (by simp)
   ·rw [if_neg c7] at H
    have c7b0 : (a1 == 1) = false := beq_eq_false_iff_ne.mpr c7
    have c7b1 : (a1 != 1) = true := bne_iff_ne.mpr c7
    obtain rfl := Option.some.inj H
    go_enter Try.func40, Try.ntmps40
    go_wp2_with (first | ((with_reducible refine gate_callee (f := 46) rfl ?_); refine goesL_ (some 12) rfl rfl Try.func46 (by kernel_rfl) rfl #[.int .i64 a1, .int .i64 a2] rfl (by (try simp only [List.map_toArray, List.map_cons, List.map_nil]); first | done | rfl | (simp only [List.length_drop, List.length_take]; rfl)) ?_; (with_reducible refine (spec_l4Bytes.calls a1 a2 t150 _ A4.out).mono ?_); rintro e w24 ⟨rfl, hb⟩; refine ⟨_, rfl, ?_⟩; have n0_ := Aside0.mk (below_step (by repeat (first | (with_reducible first | exact HB.out | apply js | apply jt | apply ju) | exact HB.out)) hb); clear HB; have HB := n0_; clear n0_; (try clear hb); (try clear hb2); (try clear hk); (try clear hi)))
    go_ret
    exact ⟨by first | rfl | (simp [errW_none, errW_some] <;> rfl) | (simp [*, errW_none, errW_some] <;> rfl) | (simp only [Bool.and_eq_true, beq_iff_eq, Bool.not_eq_true', Bool.not_eq_eq_eq_not, Bool.not_true, Bool.not_false] at *; simp [*]), by repeat (first | (with_reducible first | exact HB.out | apply js | apply jt | apply ju) | exact HB.out)⟩
  ·rw [if_neg c6] at H
   exact absurd H (by simp)
 ·rw [if_neg c5] at H
  exact absurd H (by simp)

end Go.Proofs.Ytjiidjlmdibhdaa.P
