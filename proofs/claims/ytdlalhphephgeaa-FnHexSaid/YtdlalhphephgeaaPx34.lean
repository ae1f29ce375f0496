-- PRINTED by print.py (a twelfth state) out of the translation. Not trusted: Lean checks it.
import Derived.Test.YtdlalhphephgeaaPx0
import Derived.Test.YtdlalhphephgeaaPx26
import Derived.Test.YtdlalhphephgeaaPx32
import Derived.Test.YtdlalhphephgeaaPx33
namespace Go.Proofs.Ytdlalhphephgeaa.P
open Go.RowKit Go.Proofs.YtdlalhphephgeaaW.PrintWords Go.Proofs.YtdlalhphephgeaaW.PrintLast Go.Proofs.YtdlalhphephgeaaW.PrintMore
attribute [local go_sem] max2_int min2_int max_two min_two max_three min_three max_four min_four   -- for this text's walks alone
set_option linter.unusedVariables false
set_option linter.unusedSimpArgs false

/-! ### spec_l1Rd_of: function 58 -/
def spec_l1Rd_of.f (k : Nat) (s0_0 : List Int) (s0_1 : Int) (l1 : List ByteArray) : Option (ByteArray × Int) := (spec_l1Rd_pick.f k s0_0 s0_1 (l1.length : Int)).bind fun bt239 => (if 0 ≤ bt239.1 then (if bt239.1 < (l1.length : Int) then (some (rdOf ByteArray.empty l1 bt239.1, bt239.2)) else (none)) else (none))
theorem spec_l1Rd_of.mono : ∀ a0 a1 a2 k, LeO (spec_l1Rd_of.f k a0 a1 a2) (spec_l1Rd_of.f (k + 1) a0 a1 a2) := by
  intro a0 a1 a2 k
  unfold spec_l1Rd_of.f
  repeat' first
      | (with_reducible exact spec_l1Rd_pick.mono _ _ _ _)
      | (with_reducible exact LeO.refl _)
      | (with_reducible exact LeO.none _)
      | (with_reducible refine LeO.ite ?_ ?_)
      | (with_reducible refine LeO.bind ?_ (fun _ => ?_))
      | exact spec_l1Rd_pick.mono _ _ _ _
      | exact LeO.none _
      | refine LeO.ite ?_ ?_
      | refine LeO.bind ?_ (fun _ => ?_)
set_option maxHeartbeats 8000000 in
set_option maxRecDepth 100000 in
theorem spec_l1Rd_of.calls (k : Nat) (g : Nat) (s0_0 : List Int) (s0_1 : Int) (A1 : Option Addr) (c1 : Nat) (l1 : List ByteArray) (r1 : ByteArray) (r2 : Int) (w0 w : World) (hI : IsS63 w0 w g s0_0 s0_1) (hB : Below w0.heap.size w0 w) (hr1 : Kd.C Kd.string w A1 l1.length l1) (hc1 : l1.length ≤ c1) (hf1 : ∀ ad, A1 = some ad → 0 < l1.length → ad.block ≠ g) (h : spec_l1Rd_of.f k s0_0 s0_1 l1 = some (r1, r2)) :
    Calls Try.prog 58 #[.pointer (some ⟨g, 0, none⟩), .slice A1 l1.length c1] w fun e w' => e = .returned (.string r1) ∧ IsS63 w0 w' g s0_0 r2 ∧ Below w0.heap.size w0 w' ∧ KeepBut w w' g none := by
  have HR1 := Aside0.mk hr1
  have HC1 := Aside0.mk hc1
  clear hr1 hc1
  have HI0 := Aside0.mk hI
  have HK := Aside0.mk (KeepBut.refl w g none)
  have HL := Aside0.mk hB.size
  clear hI
  have HW0 := Aside0.mk hB.size
  have HB := Aside0.mk hB
  clear hB
  have H : ((spec_l1Rd_pick.f k s0_0 s0_1 (l1.length : Int)).bind fun bt239 => (if 0 ≤ bt239.1 then (if bt239.1 < (l1.length : Int) then (some (rdOf ByteArray.empty l1 bt239.1, bt239.2)) else (none)) else (none))) = some (r1, r2) := h
  clear h
  replace H := Option.bind_eq_some_iff.mp H
  obtain ⟨⟨t239, t240⟩, A30, H⟩ := H
  replace H : (if 0 ≤ t239 then (if t239 < (l1.length : Int) then (some (rdOf ByteArray.empty l1 t239, t240)) else (none)) else (none)) = some (r1, r2) := H
  have A3 := Aside0.mk A30
  clear A30
  by_cases c4 : 0 ≤ t239
  · rw [if_pos c4] at H
    have c4b0 : decide (0 ≤ t239) = true := decide_eq_true c4
    clear c4
    by_cases c5 : t239 < (l1.length : Int)
    · rw [if_pos c5] at H
      have c5b0 : decide (t239 < (l1.length : Int)) = true := decide_eq_true c5
      clear c5
      simp only [Option.some.injEq, Prod.mk.injEq] at H
      obtain ⟨rfl, rfl⟩ := H
      go_enter Try.func58, Try.ntmps58
      go_wp2_with (first | ((with_reducible refine gate_callee (f := 55) rfl ?_); refine goesL_ (some 9) rfl rfl Try.func55 (by kernel_rfl) rfl #[.pointer (some ⟨g, 0, none⟩), .int .i64 (l1.length : Int)] rfl (by (try simp only [List.map_toArray, List.map_cons, List.map_nil]); first | done | rfl | (simp only [List.length_drop, List.length_take]; rfl)) ?_; (with_reducible refine (spec_l1Rd_pick.calls k g s0_0 s0_1 (l1.length : Int) t239 t240 w0 _ ?side1 ?side2 A3.out).mono ?_); (case side1 => repeat (first | (with_reducible first | exact HI0.out | apply IsS63.alloc | apply IsS63.drewN | apply IsS63.drew | apply IsS63.set_1) | exact HI0.out)); (case side2 => repeat (first | (with_reducible first | exact HB.out | apply below_alloc | apply pw_below_drewN | apply below_drew1 | refine below_set ?_ (IsS63.ge HI0.out)) | exact HB.out)); rintro e w6 ⟨rfl, hi, hb, hk⟩; refine ⟨_, rfl, ?_⟩; have n0_ := Aside0.mk (KeepBut.trans (by repeat (first | (with_reducible first | exact HK.out | apply KeepBut.set_ | apply keep_drewN | apply keep_drew | apply keep_alloc) | exact HK.out)) hk (.inl rfl)); have n1_ := Aside0.mk (hb); have n2_ := Aside0.mk (hi); clear HK; clear HB; clear HI0; have HK := n0_; have HB := n1_; have HI0 := n2_; clear n0_ n1_ n2_; (try clear hb); (try clear hb2); (try clear hk); (try clear hi); have p241 : 0 ≤ (t239 : Int) := of_decide_eq_true (by first | (with_reducible assumption) | assumption); have q241 : t239 < (l1.length : Int) := of_decide_eq_true (by first | (with_reducible assumption) | assumption); obtain ⟨ad241, e241, hx241_0⟩ := Kd.at_string HR1.out t239 p241 q241; cases e241; replace hx241_0 := keep_cell HK.out hx241_0 (by first | (rw [add_block]; exact hf1 _ rfl (by omega)) | exact hf1 _ rfl (by omega) | exact hf1 ad241 rfl (by omega)); replace p241 := eq_true p241; replace q241 := eq_true q241))
      go_ret
      exact ⟨by first | rfl | (simp [errW_none, errW_some] <;> rfl) | (simp [*, errW_none, errW_some] <;> rfl), by repeat (first | (with_reducible first | exact HI0.out | apply IsS63.alloc | apply IsS63.drewN | apply IsS63.drew | apply IsS63.set_1) | exact HI0.out), by repeat (first | (with_reducible first | exact HB.out | apply below_alloc | apply pw_below_drewN | apply below_drew1 | refine below_set ?_ (IsS63.ge HI0.out)) | exact HB.out), by repeat (first | (with_reducible first | exact HK.out | apply KeepBut.set_ | apply keep_drewN | apply keep_drew | apply keep_alloc) | exact HK.out)⟩
    · rw [if_neg c5] at H
      exact absurd H (by simp)
  · rw [if_neg c4] at H
    exact absurd H (by simp)

/-! ### spec_l13Word: function 57 -/
def spec_l13Word.f (k : Nat) (s0_0 : List Int) (s0_1 : Int) : Option (ByteArray × Int) := (spec_l1Many.f k (⟨#[0]⟩ : ByteArray) 8).bind fun t242 => ((spec_l1Many.f k (⟨#[0]⟩ : ByteArray) 8).bind fun t243 => ((spec_l1Many.f k (⟨#[0]⟩ : ByteArray) 7).bind fun t244 => (if 1 + t244.size ≤ 9223372036854775807 then ((spec_l1Many.f k (⟨#[255]⟩ : ByteArray) 8).bind fun t245 => ((spec_l1Rd_pick.f k s0_0 s0_1 256).bind fun bt246 => ((spec_l1Rd_pick.f k s0_0 bt246.2 256).bind fun bt248 => ((spec_l1Bytes.f k (wrap64 ((wrap64 (bt246.1 * 256)) + bt248.1)) 8).bind fun t250 => ((spec_l1Rd_of.f k s0_0 bt248.2 (([t242, t243, (⟨#[1]⟩ : ByteArray) ++ t244, t245, (⟨#[97, 98, 99, 100, 101, 102, 103, 104]⟩ : ByteArray), (⟨#[0, 0, 97, 0, 0, 0, 98, 0]⟩ : ByteArray), (⟨#[97, 98, 99, 0, 101, 102, 103, 104]⟩ : ByteArray), t250] : List ByteArray))).bind fun bt254 => (some (bt254.1, bt254.2))))))) else (none))))
theorem spec_l13Word.mono : ∀ a0 a1 k, LeO (spec_l13Word.f k a0 a1) (spec_l13Word.f (k + 1) a0 a1) := by
  intro a0 a1 k
  unfold spec_l13Word.f
  repeat' first
      | (with_reducible exact spec_l1Bytes.mono _ _ _)
      | (with_reducible exact spec_l1Many.mono _ _ _)
      | (with_reducible exact spec_l1Rd_of.mono _ _ _ _)
      | (with_reducible exact spec_l1Rd_pick.mono _ _ _ _)
      | (with_reducible exact LeO.refl _)
      | (with_reducible exact LeO.none _)
      | (with_reducible refine LeO.ite ?_ ?_)
      | (with_reducible refine LeO.bind ?_ (fun _ => ?_))
      | exact spec_l1Bytes.mono _ _ _
      | exact spec_l1Many.mono _ _ _
      | exact spec_l1Rd_of.mono _ _ _ _
      | exact spec_l1Rd_pick.mono _ _ _ _
      | exact LeO.none _
      | refine LeO.ite ?_ ?_
      | refine LeO.bind ?_ (fun _ => ?_)
set_option maxHeartbeats 8000000 in
set_option maxRecDepth 100000 in
theorem spec_l13Word.calls (k : Nat) (g : Nat) (s0_0 : List Int) (s0_1 : Int) (r1 : ByteArray) (r2 : Int) (w0 w : World) (hI : IsS63 w0 w g s0_0 s0_1) (hB : Below w0.heap.size w0 w) (h : spec_l13Word.f k s0_0 s0_1 = some (r1, r2)) :
    Calls Try.prog 57 #[.pointer (some ⟨g, 0, none⟩)] w fun e w' => e = .returned (.string r1) ∧ IsS63 w0 w' g s0_0 r2 ∧ Below w0.heap.size w0 w' ∧ KeepBut w w' g none := by
  have HI0 := Aside0.mk hI
  have HK := Aside0.mk (KeepBut.refl w g none)
  have HL := Aside0.mk hB.size
  clear hI
  have HW0 := Aside0.mk hB.size
  have HB := Aside0.mk hB
  clear hB
  have H : ((spec_l1Many.f k (⟨#[0]⟩ : ByteArray) 8).bind fun t242 => ((spec_l1Many.f k (⟨#[0]⟩ : ByteArray) 8).bind fun t243 => ((spec_l1Many.f k (⟨#[0]⟩ : ByteArray) 7).bind fun t244 => (if 1 + t244.size ≤ 9223372036854775807 then ((spec_l1Many.f k (⟨#[255]⟩ : ByteArray) 8).bind fun t245 => ((spec_l1Rd_pick.f k s0_0 s0_1 256).bind fun bt246 => ((spec_l1Rd_pick.f k s0_0 bt246.2 256).bind fun bt248 => ((spec_l1Bytes.f k (wrap64 ((wrap64 (bt246.1 * 256)) + bt248.1)) 8).bind fun t250 => ((spec_l1Rd_of.f k s0_0 bt248.2 (([t242, t243, (⟨#[1]⟩ : ByteArray) ++ t244, t245, (⟨#[97, 98, 99, 100, 101, 102, 103, 104]⟩ : ByteArray), (⟨#[0, 0, 97, 0, 0, 0, 98, 0]⟩ : ByteArray), (⟨#[97, 98, 99, 0, 101, 102, 103, 104]⟩ : ByteArray), t250] : List ByteArray))).bind fun bt254 => (some (bt254.1, bt254.2))))))) else (none))))) = some (r1, r2) := h
  clear h
  replace H := Option.bind_eq_some_iff.mp H
  obtain ⟨t242, A20, H⟩ := H
  replace H : ((spec_l1Many.f k (⟨#[0]⟩ : ByteArray) 8).bind fun t243 => ((spec_l1Many.f k (⟨#[0]⟩ : ByteArray) 7).bind fun t244 => (if 1 + t244.size ≤ 9223372036854775807 then ((spec_l1Many.f k (⟨#[255]⟩ : ByteArray) 8).bind fun t245 => ((spec_l1Rd_pick.f k s0_0 s0_1 256).bind fun bt246 => ((spec_l1Rd_pick.f k s0_0 bt246.2 256).bind fun bt248 => ((spec_l1Bytes.f k (wrap64 ((wrap64 (bt246.1 * 256)) + bt248.1)) 8).bind fun t250 => ((spec_l1Rd_of.f k s0_0 bt248.2 (([t242, t243, (⟨#[1]⟩ : ByteArray) ++ t244, t245, (⟨#[97, 98, 99, 100, 101, 102, 103, 104]⟩ : ByteArray), (⟨#[0, 0, 97, 0, 0, 0, 98, 0]⟩ : ByteArray), (⟨#[97, 98, 99, 0, 101, 102, 103, 104]⟩ : ByteArray), t250] : List ByteArray))).bind fun bt254 => (some (bt254.1, bt254.2))))))) else (none)))) = some (r1, r2) := H
  have A2 := Aside0.mk A20
  clear A20
  replace H := Option.bind_eq_some_iff.mp H
  obtain ⟨t243, A30, H⟩ := H
  replace H : ((spec_l1Many.f k (⟨#[0]⟩ : ByteArray) 7).bind fun t244 => (if 1 + t244.size ≤ 9223372036854775807 then ((spec_l1Many.f k (⟨#[255]⟩ : ByteArray) 8).bind fun t245 => ((spec_l1Rd_pick.f k s0_0 s0_1 256).bind fun bt246 => ((spec_l1Rd_pick.f k s0_0 bt246.2 256).bind fun bt248 => ((spec_l1Bytes.f k (wrap64 ((wrap64 (bt246.1 * 256)) + bt248.1)) 8).bind fun t250 => ((spec_l1Rd_of.f k s0_0 bt248.2 (([t242, t243, (⟨#[1]⟩ : ByteArray) ++ t244, t245, (⟨#[97, 98, 99, 100, 101, 102, 103, 104]⟩ : ByteArray), (⟨#[0, 0, 97, 0, 0, 0, 98, 0]⟩ : ByteArray), (⟨#[97, 98, 99, 0, 101, 102, 103, 104]⟩ : ByteArray), t250] : List ByteArray))).bind fun bt254 => (some (bt254.1, bt254.2))))))) else (none))) = some (r1, r2) := H
  have A3 := Aside0.mk A30
  clear A30
  replace H := Option.bind_eq_some_iff.mp H
  obtain ⟨t244, A40, H⟩ := H
  replace H : (if 1 + t244.size ≤ 9223372036854775807 then ((spec_l1Many.f k (⟨#[255]⟩ : ByteArray) 8).bind fun t245 => ((spec_l1Rd_pick.f k s0_0 s0_1 256).bind fun bt246 => ((spec_l1Rd_pick.f k s0_0 bt246.2 256).bind fun bt248 => ((spec_l1Bytes.f k (wrap64 ((wrap64 (bt246.1 * 256)) + bt248.1)) 8).bind fun t250 => ((spec_l1Rd_of.f k s0_0 bt248.2 (([t242, t243, (⟨#[1]⟩ : ByteArray) ++ t244, t245, (⟨#[97, 98, 99, 100, 101, 102, 103, 104]⟩ : ByteArray), (⟨#[0, 0, 97, 0, 0, 0, 98, 0]⟩ : ByteArray), (⟨#[97, 98, 99, 0, 101, 102, 103, 104]⟩ : ByteArray), t250] : List ByteArray))).bind fun bt254 => (some (bt254.1, bt254.2))))))) else (none)) = some (r1, r2) := H
  have A4 := Aside0.mk A40
  clear A40
  by_cases c5 : 1 + t244.size ≤ 9223372036854775807
  · rw [if_pos c5] at H
    have c5b0 := eq_true c5
    have c5b1 : decide (1 + t244.size ≤ 9223372036854775807) = true := decide_eq_true c5
    try have c5b2 : (9223372036854775807 < 1 + t244.size) = False := eq_false (Nat.not_lt.2 c5)
    replace H := Option.bind_eq_some_iff.mp H
    obtain ⟨t245, A60, H⟩ := H
    replace H : ((spec_l1Rd_pick.f k s0_0 s0_1 256).bind fun bt246 => ((spec_l1Rd_pick.f k s0_0 bt246.2 256).bind fun bt248 => ((spec_l1Bytes.f k (wrap64 ((wrap64 (bt246.1 * 256)) + bt248.1)) 8).bind fun t250 => ((spec_l1Rd_of.f k s0_0 bt248.2 (([t242, t243, (⟨#[1]⟩ : ByteArray) ++ t244, t245, (⟨#[97, 98, 99, 100, 101, 102, 103, 104]⟩ : ByteArray), (⟨#[0, 0, 97, 0, 0, 0, 98, 0]⟩ : ByteArray), (⟨#[97, 98, 99, 0, 101, 102, 103, 104]⟩ : ByteArray), t250] : List ByteArray))).bind fun bt254 => (some (bt254.1, bt254.2)))))) = some (r1, r2) := H
    have A6 := Aside0.mk A60
    clear A60
    replace H := Option.bind_eq_some_iff.mp H
    obtain ⟨⟨t246, t247⟩, A70, H⟩ := H
    replace H : ((spec_l1Rd_pick.f k s0_0 t247 256).bind fun bt248 => ((spec_l1Bytes.f k (wrap64 ((wrap64 (t246 * 256)) + bt248.1)) 8).bind fun t250 => ((spec_l1Rd_of.f k s0_0 bt248.2 (([t242, t243, (⟨#[1]⟩ : ByteArray) ++ t244, t245, (⟨#[97, 98, 99, 100, 101, 102, 103, 104]⟩ : ByteArray), (⟨#[0, 0, 97, 0, 0, 0, 98, 0]⟩ : ByteArray), (⟨#[97, 98, 99, 0, 101, 102, 103, 104]⟩ : ByteArray), t250] : List ByteArray))).bind fun bt254 => (some (bt254.1, bt254.2))))) = some (r1, r2) := H
    have A7 := Aside0.mk A70
    clear A70
    replace H := Option.bind_eq_some_iff.mp H
    obtain ⟨⟨t248, t249⟩, A80, H⟩ := H
    replace H : ((spec_l1Bytes.f k (wrap64 ((wrap64 (t246 * 256)) + t248)) 8).bind fun t250 => ((spec_l1Rd_of.f k s0_0 t249 (([t242, t243, (⟨#[1]⟩ : ByteArray) ++ t244, t245, (⟨#[97, 98, 99, 100, 101, 102, 103, 104]⟩ : ByteArray), (⟨#[0, 0, 97, 0, 0, 0, 98, 0]⟩ : ByteArray), (⟨#[97, 98, 99, 0, 101, 102, 103, 104]⟩ : ByteArray), t250] : List ByteArray))).bind fun bt254 => (some (bt254.1, bt254.2)))) = some (r1, r2) := H
    have A8 := Aside0.mk A80
    clear A80
    replace H := Option.bind_eq_some_iff.mp H
    obtain ⟨t250, A90, H⟩ := H
    replace H : ((spec_l1Rd_of.f k s0_0 t249 (([t242, t243, (⟨#[1]⟩ : ByteArray) ++ t244, t245, (⟨#[97, 98, 99, 100, 101, 102, 103, 104]⟩ : ByteArray), (⟨#[0, 0, 97, 0, 0, 0, 98, 0]⟩ : ByteArray), (⟨#[97, 98, 99, 0, 101, 102, 103, 104]⟩ : ByteArray), t250] : List ByteArray))).bind fun bt254 => (some (bt254.1, bt254.2))) = some (r1, r2) := H
    have A9 := Aside0.mk A90
    clear A90
    obtain ⟨y251, hy251⟩ : ∃ y_ : List ByteArray, y_ = (([t242, t243, (⟨#[1]⟩ : ByteArray) ++ t244, t245, (⟨#[97, 98, 99, 100, 101, 102, 103, 104]⟩ : ByteArray), (⟨#[0, 0, 97, 0, 0, 0, 98, 0]⟩ : ByteArray), (⟨#[97, 98, 99, 0, 101, 102, 103, 104]⟩ : ByteArray), t250] : List ByteArray)) := ⟨_, rfl⟩
    replace H : ((spec_l1Rd_of.f k s0_0 t249 y251).bind fun bt254 => (some (bt254.1, bt254.2))) = some (r1, r2) := by first | (rw [hy251]; with_reducible exact H) | (have H2_ := (Option.bind_some _ _).symm.trans H; rw [hy251]; with_reducible exact H2_) | (have H2_ := (Option.bind_some _ _).symm.trans H; with_reducible exact H2_) | with_reducible exact H | (rw [hy251]; exact H) | exact H
    have Ny251 := Aside0.mk hy251
    clear hy251
    replace H := Option.bind_eq_some_iff.mp H
    obtain ⟨⟨t254, t255⟩, A100, H⟩ := H
    replace H : (some (t254, t255)) = some (r1, r2) := H
    have A10 := Aside0.mk A100
    clear A100
    simp only [Option.some.injEq, Prod.mk.injEq] at H
    obtain ⟨rfl, rfl⟩ := H
    go_enter Try.func57, Try.ntmps57
    go_wp2_with (first | ((with_reducible refine gate_callee (f := 56) rfl ?_); refine goesL_ (some 4) rfl rfl Try.func56 (by kernel_rfl) rfl #[.string (⟨#[0]⟩ : ByteArray), .int .i64 8] rfl (by (try simp only [List.map_toArray, List.map_cons, List.map_nil]); first | done | rfl | (simp only [List.length_drop, List.length_take]; rfl)) ?_; (with_reducible refine (spec_l1Many.calls k (⟨#[0]⟩ : ByteArray) 8 t242 _ A2.out).mono ?_); rintro e w' ⟨rfl, ⟨nd, rfl⟩⟩; refine ⟨_, rfl, ?_⟩) | ((with_reducible refine gate_callee (f := 56) rfl ?_); refine goesL_ (some 5) rfl rfl Try.func56 (by kernel_rfl) rfl #[.string (⟨#[0]⟩ : ByteArray), .int .i64 8] rfl (by (try simp only [List.map_toArray, List.map_cons, List.map_nil]); first | done | rfl | (simp only [List.length_drop, List.length_take]; rfl)) ?_; (with_reducible refine (spec_l1Many.calls k (⟨#[0]⟩ : ByteArray) 8 t243 _ A3.out).mono ?_); rintro e w' ⟨rfl, ⟨nd, rfl⟩⟩; refine ⟨_, rfl, ?_⟩) | ((with_reducible refine gate_callee (f := 56) rfl ?_); refine goesL_ (some 6) rfl rfl Try.func56 (by kernel_rfl) rfl #[.string (⟨#[0]⟩ : ByteArray), .int .i64 7] rfl (by (try simp only [List.map_toArray, List.map_cons, List.map_nil]); first | done | rfl | (simp only [List.length_drop, List.length_take]; rfl)) ?_; (with_reducible refine (spec_l1Many.calls k (⟨#[0]⟩ : ByteArray) 7 t244 _ A4.out).mono ?_); rintro e w' ⟨rfl, ⟨nd, rfl⟩⟩; refine ⟨_, rfl, ?_⟩) | ((with_reducible refine gate_callee (f := 56) rfl ?_); refine goesL_ (some 8) rfl rfl Try.func56 (by kernel_rfl) rfl #[.string (⟨#[255]⟩ : ByteArray), .int .i64 8] rfl (by (try simp only [List.map_toArray, List.map_cons, List.map_nil]); first | done | rfl | (simp only [List.length_drop, List.length_take]; rfl)) ?_; (with_reducible refine (spec_l1Many.calls k (⟨#[255]⟩ : ByteArray) 8 t245 _ A6.out).mono ?_); rintro e w' ⟨rfl, ⟨nd, rfl⟩⟩; refine ⟨_, rfl, ?_⟩) | ((with_reducible refine gate_callee (f := 55) rfl ?_); refine goesL_ (some 10) rfl rfl Try.func55 (by kernel_rfl) rfl #[.pointer (some ⟨g, 0, none⟩), .int .i64 256] rfl (by (try simp only [List.map_toArray, List.map_cons, List.map_nil]); first | done | rfl | (simp only [List.length_drop, List.length_take]; rfl)) ?_; (with_reducible refine (spec_l1Rd_pick.calls k g s0_0 s0_1 256 t246 t247 w0 _ ?side1 ?side2 A7.out).mono ?_); (case side1 => repeat (first | (with_reducible first | exact HI0.out | apply IsS63.alloc | apply IsS63.drewN | apply IsS63.drew | apply IsS63.set_1) | exact HI0.out)); (case side2 => repeat (first | (with_reducible first | exact HB.out | apply below_alloc | apply pw_below_drewN | apply below_drew1 | refine below_set ?_ (IsS63.ge HI0.out)) | exact HB.out)); rintro e w11 ⟨rfl, hi, hb, hk⟩; refine ⟨_, rfl, ?_⟩; have n0_ := Aside0.mk (KeepBut.trans (by repeat (first | (with_reducible first | exact HK.out | apply KeepBut.set_ | apply keep_drewN | apply keep_drew | apply keep_alloc) | exact HK.out)) hk (.inl rfl)); have n1_ := Aside0.mk (hb); have n2_ := Aside0.mk (hi); clear HK; clear HB; clear HI0; have HK := n0_; have HB := n1_; have HI0 := n2_; clear n0_ n1_ n2_; (try clear hb); (try clear hb2); (try clear hk); (try clear hi)) | ((with_reducible refine gate_callee (f := 55) rfl ?_); refine goesL_ (some 13) rfl rfl Try.func55 (by kernel_rfl) rfl #[.pointer (some ⟨g, 0, none⟩), .int .i64 256] rfl (by (try simp only [List.map_toArray, List.map_cons, List.map_nil]); first | done | rfl | (simp only [List.length_drop, List.length_take]; rfl)) ?_; (with_reducible refine (spec_l1Rd_pick.calls k g s0_0 t247 256 t248 t249 w0 _ ?side1 ?side2 A8.out).mono ?_); (case side1 => repeat (first | (with_reducible first | exact HI0.out | apply IsS63.alloc | apply IsS63.drewN | apply IsS63.drew | apply IsS63.set_1) | exact HI0.out)); (case side2 => repeat (first | (with_reducible first | exact HB.out | apply below_alloc | apply pw_below_drewN | apply below_drew1 | refine below_set ?_ (IsS63.ge HI0.out)) | exact HB.out)); rintro e w12 ⟨rfl, hi, hb, hk⟩; refine ⟨_, rfl, ?_⟩; have n0_ := Aside0.mk (KeepBut.trans (by repeat (first | (with_reducible first | exact HK.out | apply KeepBut.set_ | apply keep_drewN | apply keep_drew | apply keep_alloc) | exact HK.out)) hk (.inl rfl)); have n1_ := Aside0.mk (hb); have n2_ := Aside0.mk (hi); clear HK; clear HB; clear HI0; have HK := n0_; have HB := n1_; have HI0 := n2_; clear n0_ n1_ n2_; (try clear hb); (try clear hb2); (try clear hk); (try clear hi)) | ((with_reducible refine gate_callee (f := 45) rfl ?_); refine goesL_ (some 15) rfl rfl Try.func45 (by kernel_rfl) rfl #[.int .i64 (wrap64 ((wrap64 (t246 * 256)) + t248)), .int .i64 8] rfl (by (try simp only [List.map_toArray, List.map_cons, List.map_nil]); first | done | rfl | (simp only [List.length_drop, List.length_take]; rfl)) ?_; (with_reducible refine (spec_l1Bytes.calls k (wrap64 ((wrap64 (t246 * 256)) + t248)) 8 t250 _ A9.out).mono ?_); rintro e w13 ⟨rfl, hb⟩; refine ⟨_, rfl, ?_⟩; have n0_ := Aside0.mk (IsS63.below (by repeat (first | (with_reducible first | exact HI0.out | apply IsS63.alloc | apply IsS63.drewN | apply IsS63.drew | apply IsS63.set_1) | exact HI0.out)) hb); have n1_ := Aside0.mk (KeepBut.trans (by repeat (first | (with_reducible first | exact HK.out | apply KeepBut.set_ | apply keep_drewN | apply keep_drew | apply keep_alloc) | exact HK.out)) (KeepBut.of_below hb g none) (.inl rfl)); have n2_ := Aside0.mk (below_step (by repeat (first | (with_reducible first | exact HB.out | apply below_alloc | apply pw_below_drewN | apply below_drew1 | refine below_set ?_ (IsS63.ge HI0.out)) | exact HB.out)) hb); clear HI0; clear HK; clear HB; have HI0 := n0_; have HK := n1_; have HB := n2_; clear n0_ n1_ n2_; (try clear hb); (try clear hb2); (try clear hk); (try clear hi)) | ((with_reducible refine gate_dst (N := 16) rfl ?_); refine Kd.R_lit Kd.string _ 9 ?hg (N := 16) ?hd (xs := ([t242, t243, (⟨#[1]⟩ : ByteArray) ++ t244, t245, (⟨#[97, 98, 99, 100, 101, 102, 103, 104]⟩ : ByteArray), (⟨#[0, 0, 97, 0, 0, 0, 98, 0]⟩ : ByteArray), (⟨#[97, 98, 99, 0, 101, 102, 103, 104]⟩ : ByteArray), t250] : List ByteArray)) (inner := [.string t242, .string t243, .string ((⟨#[1]⟩ : ByteArray) ++ t244), .string t245, .string (⟨#[97, 98, 99, 100, 101, 102, 103, 104]⟩ : ByteArray), .string (⟨#[0, 0, 97, 0, 0, 0, 98, 0]⟩ : ByteArray), .string (⟨#[97, 98, 99, 0, 101, 102, 103, 104]⟩ : ByteArray), .string t250]) (ok := fun _ => True) (okp := fun _ => True) ?hr ?hp (fun _ hk => hk) trivial (Below.refl _ _) (Nat.le_refl _) (by simp) ?_; (case hd => rfl); (case hg => rfl); (case hr => first | (go_simp; done) | (go_simp; rfl)); (case hp => exact (Reps.one (show Kd.M Kd.string _ _ _ t242 [.string t242] from rfl) (Reps.one (show Kd.M Kd.string _ _ _ t243 [.string t243] from rfl) (Reps.one (show Kd.M Kd.string _ _ _ ((⟨#[1]⟩ : ByteArray) ++ t244) [.string ((⟨#[1]⟩ : ByteArray) ++ t244)] from rfl) (Reps.one (show Kd.M Kd.string _ _ _ t245 [.string t245] from rfl) (Reps.one (show Kd.M Kd.string _ _ _ (⟨#[97, 98, 99, 100, 101, 102, 103, 104]⟩ : ByteArray) [.string (⟨#[97, 98, 99, 100, 101, 102, 103, 104]⟩ : ByteArray)] from rfl) (Reps.one (show Kd.M Kd.string _ _ _ (⟨#[0, 0, 97, 0, 0, 0, 98, 0]⟩ : ByteArray) [.string (⟨#[0, 0, 97, 0, 0, 0, 98, 0]⟩ : ByteArray)] from rfl) (Reps.one (show Kd.M Kd.string _ _ _ (⟨#[97, 98, 99, 0, 101, 102, 103, 104]⟩ : ByteArray) [.string (⟨#[97, 98, 99, 0, 101, 102, 103, 104]⟩ : ByteArray)] from rfl) (Reps.one (show Kd.M Kd.string _ _ _ t250 [.string t250] from rfl) (Reps.none _ _)))))))))); intro v252 w14 ho15 hb hg_ hnew_; clear hg_ hnew_; (first | rw [← Ny251.out] at ho15 | (simp only [Int.reduceToNat] at ho15; rw [← Ny251.out] at ho15)); have n0_ := Aside0.mk (Kd.R_lower ho15 (keep_size (w := w) (g := g) (row := none) (by repeat (first | (with_reducible first | exact HK.out | apply KeepBut.set_ | apply keep_drewN | apply keep_drew | apply keep_alloc) | exact HK.out)))); have n1_ := Aside0.mk (IsS63.below (by repeat (first | (with_reducible first | exact HI0.out | apply IsS63.alloc | apply IsS63.drewN | apply IsS63.drew | apply IsS63.set_1) | exact HI0.out)) hb); have n2_ := Aside0.mk (KeepBut.trans (by repeat (first | (with_reducible first | exact HK.out | apply KeepBut.set_ | apply keep_drewN | apply keep_drew | apply keep_alloc) | exact HK.out)) (KeepBut.of_below hb g none) (.inl rfl)); have n3_ := Aside0.mk (below_step (by repeat (first | (with_reducible first | exact HB.out | apply below_alloc | apply pw_below_drewN | apply below_drew1 | refine below_set ?_ (IsS63.ge HI0.out)) | exact HB.out)) hb); clear HI0; clear HK; clear HB; have HO253 := n0_; have HI0 := n1_; have HK := n2_; have HB := n3_; clear n0_ n1_ n2_ n3_; clear hb ho15; obtain ⟨Ao16, co16, eo16⟩ := Kd.R_slice HO253.out; subst eo16) | ((with_reducible refine gate_callee (f := 58) rfl ?_); refine goesL_ (some 17) rfl rfl Try.func58 (by kernel_rfl) rfl #[.pointer (some ⟨g, 0, none⟩), .slice Ao16 y251.length co16] rfl (by (try simp only [List.map_toArray, List.map_cons, List.map_nil]); first | done | rfl | (simp only [List.length_drop, List.length_take]; rfl)) ?_; (with_reducible refine (spec_l1Rd_of.calls k g s0_0 t249 _ _ y251 t254 t255 w0 _ ?side1 ?side2 ?side3 ?side4 ?side5 A10.out).mono ?_); (case side1 => repeat (first | (with_reducible first | exact HI0.out | apply IsS63.alloc | apply IsS63.drewN | apply IsS63.drew | apply IsS63.set_1) | exact HI0.out)); (case side2 => repeat (first | (with_reducible first | exact HB.out | apply below_alloc | apply pw_below_drewN | apply below_drew1 | refine below_set ?_ (IsS63.ge HI0.out)) | exact HB.out)); (case side3 => repeat (first | exact (Kd.R_reads' HO253.out).2.2 | (with_reducible refine Kd.C_alloc ?_ _) | (with_reducible refine Kd.C_drewN ?_ _) | (with_reducible refine Kd.C_drew ?_))); (case side4 => exact (Kd.R_reads' HO253.out).2.1); (case side5 => exact far_slice (IsS63.own_ne HI0.out HO253.out (by decide))); rintro e w17 ⟨rfl, hi, hb, hk⟩; refine ⟨_, rfl, ?_⟩; have n0_ := Aside0.mk (Kd.R_mono (Kd.R_keep (IsS63.apart (show IsS63 w0 _ g s0_0 t249 from by repeat (first | (with_reducible first | exact HI0.out | apply IsS63.alloc | apply IsS63.drewN | apply IsS63.drew | apply IsS63.set_1) | exact HI0.out)) (by (with_reducible repeat (first | apply Kd.R_alloc | apply Kd.R_drewN | apply Kd.R_drew)); exact HO253.out) (by decide)) hk (fun _ h => h.2)) (fun _ h => h.1)); have n1_ := Aside0.mk (KeepBut.trans (by repeat (first | (with_reducible first | exact HK.out | apply KeepBut.set_ | apply keep_drewN | apply keep_drew | apply keep_alloc) | exact HK.out)) hk (.inl rfl)); have n2_ := Aside0.mk (hb); have n3_ := Aside0.mk (hi); clear HO253; clear HK; clear HB; clear HI0; have HO253 := n0_; have HK := n1_; have HB := n2_; have HI0 := n3_; clear n0_ n1_ n2_ n3_; (try clear hb); (try clear hb2); (try clear hk); (try clear hi)))
    go_ret
    exact ⟨by first | rfl | (simp [errW_none, errW_some] <;> rfl) | (simp [*, errW_none, errW_some] <;> rfl), by repeat (first | (with_reducible first | exact HI0.out | apply IsS63.alloc | apply IsS63.drewN | apply IsS63.drew | apply IsS63.set_1) | exact HI0.out), by repeat (first | (with_reducible first | exact HB.out | apply below_alloc | apply pw_below_drewN | apply below_drew1 | refine below_set ?_ (IsS63.ge HI0.out)) | exact HB.out), by repeat (first | (with_reducible first | exact HK.out | apply KeepBut.set_ | apply keep_drewN | apply keep_drew | apply keep_alloc) | exact HK.out)⟩
  · rw [if_neg c5] at H
    exact absurd H (by simp)

end Go.Proofs.Ytdlalhphephgeaa.P
