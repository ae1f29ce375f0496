-- PRINTED by print.py (a twelfth state) out of the translation. Not trusted: Lean checks it.
import Derived.Test.YteocobbddngllaaDoorPx0
import Derived.Test.YteocobbddngllaaDoorPx32
namespace Go.Proofs.YteocobbddngllaaDoor.P
open Go.RowKit Go.Proofs.YteocobbddngllaaDoorW.PrintWords Go.Proofs.YteocobbddngllaaDoorW.PrintLast Go.Proofs.YteocobbddngllaaDoorW.PrintMore
attribute [local go_sem] max2_int min2_int max_two min_two max_three min_three max_four min_four   -- for this text's walks alone
set_option linter.unusedVariables false
set_option linter.unusedSimpArgs false

/-! ### impl_Unpack: function 23 -/
mutual
def impl_Unpack.l0 : Nat → List Int → ByteArray → Bool → Option (ByteArray × Bool)
  | 0, _, _, _ => none
  | k + 1, x5, x351000, x351001 => if x351000.toList = ([] : List UInt8) then (impl_Unpack.j1 k x5 false x351000 x351001) else (if x351001 = true then (impl_Unpack.j1 k x5 false x351000 x351001) else (impl_Unpack.j1 k x5 (decide ((x5.length : Int) ≤ 1600)) x351000 x351001))
def impl_Unpack.j1 : Nat → List Int → Bool → ByteArray → Bool → Option (ByteArray × Bool)
  | 0, _, _, _, _ => none
  | k + 1, x5, x27, x351000, x351001 => if x27 = true then ((impl_taker_take.f x351000 x351001 1).bind fun bt351 => (if 0 < (bt351.1.size : Int) then (impl_Unpack.l1 k x5 (bt bt351.1 0) 0 bt351.2.1 bt351.2.2) else (none))) else (if x351001 = true then (some ((⟨#[]⟩ : ByteArray), false)) else (if (x5.length : Int) > 1600 then (some ((⟨#[]⟩ : ByteArray), false)) else (some (strOfNums x5, true))))
def impl_Unpack.l1 : Nat → List Int → Int → Int → ByteArray → Bool → Option (ByteArray × Bool)
  | 0, _, _, _, _, _ => none
  | k + 1, x5, x6, x31, x351000, x351001 => if x31 < 8 then (if 0 ≤ x31 then (if (Go.bits .and .u8 (shr .u8 x6 x31) 1) = 1 then ((impl_taker_take.f x351000 x351001 1).bind fun bt354 => (if x5.length + bt354.1.size < 140737488355328 then (impl_Unpack.l1 k (x5 ++ bytesOf bt354.1) x6 (wrap64 (x31 + 1)) bt354.2.1 bt354.2.2) else (none))) else (if x5.length < 140737488355328 then (impl_Unpack.l1 k (x5 ++ [0]) x6 (wrap64 (x31 + 1)) x351000 x351001) else (none))) else (none)) else (if x6 = 0 then ((impl_taker_take.f x351000 x351001 1).bind fun bt363 => (if 0 < (bt363.1.size : Int) then (if 0 ≤ (wrap64 (8 * (wrap64 (bt bt363.1 0)))) then (if x5.length + (wrap64 (8 * (wrap64 (bt bt363.1 0))) : Int).toNat < 140737488355328 then (impl_Unpack.l0 k (x5 ++ List.replicate (wrap64 (8 * (wrap64 (bt bt363.1 0))) : Int).toNat 0) bt363.2.1 bt363.2.2) else (none)) else (none)) else (none))) else (if x6 = 255 then ((impl_taker_take.f x351000 x351001 1).bind fun bt369 => (if 0 < (bt369.1.size : Int) then ((impl_taker_take.f bt369.2.1 bt369.2.2 (wrap64 (8 * (wrap64 (bt bt369.1 0))))).bind fun bt372 => (if x5.length + bt372.1.size < 140737488355328 then (impl_Unpack.l0 k (x5 ++ bytesOf bt372.1) bt372.2.1 bt372.2.2) else (none))) else (none))) else (impl_Unpack.l0 k x5 x351000 x351001)))
end
def impl_Unpack.f (k : Nat) (a0 : ByteArray) : Option (ByteArray × Bool) := impl_Unpack.l0 k ([] : List Int) a0 false
theorem impl_Unpack.mono_l : ∀ k, (∀ y0 y1 y2, LeO (impl_Unpack.l0 k y0 y1 y2) (impl_Unpack.l0 (k + 1) y0 y1 y2)) ∧ (∀ y0 y1 y2 y3, LeO (impl_Unpack.j1 k y0 y1 y2 y3) (impl_Unpack.j1 (k + 1) y0 y1 y2 y3)) ∧ (∀ y0 y1 y2 y3 y4, LeO (impl_Unpack.l1 k y0 y1 y2 y3 y4) (impl_Unpack.l1 (k + 1) y0 y1 y2 y3 y4))
  | 0 => ⟨fun _ _ _ r h => by simp [impl_Unpack.l0] at h, fun _ _ _ _ r h => by simp [impl_Unpack.j1] at h, fun _ _ _ _ _ r h => by simp [impl_Unpack.l1] at h⟩
  | k + 1 => by
    obtain ⟨ih0, ih1, ih2⟩ := impl_Unpack.mono_l k
    refine ⟨?_, ?_, ?_⟩
    · intro y0 y1 y2
      unfold impl_Unpack.l0
      repeat' first
      | (with_reducible exact ih0 _ _ _)
      | (with_reducible exact ih1 _ _ _ _)
      | (with_reducible exact ih2 _ _ _ _ _)
      | (with_reducible exact LeO.refl _)
      | (with_reducible exact LeO.none _)
      | (with_reducible refine LeO.ite ?_ ?_)
      | (with_reducible refine LeO.bind ?_ (fun _ => ?_))
      | exact ih0 _ _ _
      | exact ih1 _ _ _ _
      | exact ih2 _ _ _ _ _
      | exact LeO.none _
      | refine LeO.ite ?_ ?_
      | refine LeO.bind ?_ (fun _ => ?_)
    · intro y0 y1 y2 y3
      unfold impl_Unpack.j1
      repeat' first
      | (with_reducible exact ih0 _ _ _)
      | (with_reducible exact ih1 _ _ _ _)
      | (with_reducible exact ih2 _ _ _ _ _)
      | (with_reducible exact LeO.refl _)
      | (with_reducible exact LeO.none _)
      | (with_reducible refine LeO.ite ?_ ?_)
      | (with_reducible refine LeO.bind ?_ (fun _ => ?_))
      | exact ih0 _ _ _
      | exact ih1 _ _ _ _
      | exact ih2 _ _ _ _ _
      | exact LeO.none _
      | refine LeO.ite ?_ ?_
      | refine LeO.bind ?_ (fun _ => ?_)
    · intro y0 y1 y2 y3 y4
      unfold impl_Unpack.l1
      repeat' first
      | (with_reducible exact ih0 _ _ _)
      | (with_reducible exact ih1 _ _ _ _)
      | (with_reducible exact ih2 _ _ _ _ _)
      | (with_reducible exact LeO.refl _)
      | (with_reducible exact LeO.none _)
      | (with_reducible refine LeO.ite ?_ ?_)
      | (with_reducible refine LeO.bind ?_ (fun _ => ?_))
      | exact ih0 _ _ _
      | exact ih1 _ _ _ _
      | exact ih2 _ _ _ _ _
      | exact LeO.none _
      | refine LeO.ite ?_ ?_
      | refine LeO.bind ?_ (fun _ => ?_)
theorem impl_Unpack.mono : ∀ a0 k, LeO (impl_Unpack.f k a0) (impl_Unpack.f (k + 1) a0) := by
  intro a0 k
  obtain ⟨ih0, ih1, ih2⟩ := impl_Unpack.mono_l k
  unfold impl_Unpack.f
  repeat' first
      | (with_reducible exact ih0 _ _ _)
      | (with_reducible exact ih1 _ _ _ _)
      | (with_reducible exact ih2 _ _ _ _ _)
      | (with_reducible exact LeO.refl _)
      | (with_reducible exact LeO.none _)
      | (with_reducible refine LeO.ite ?_ ?_)
      | (with_reducible refine LeO.bind ?_ (fun _ => ?_))
      | exact ih0 _ _ _
      | exact ih1 _ _ _ _
      | exact ih2 _ _ _ _ _
      | exact LeO.none _
      | refine LeO.ite ?_ ?_
      | refine LeO.bind ?_ (fun _ => ?_)
set_option maxHeartbeats 8000000 in
set_option maxRecDepth 100000 in
theorem impl_Unpack.calls (k : Nat) (a0 : ByteArray) (r1 : ByteArray) (r2 : Bool) (w : World) (h : impl_Unpack.f k a0 = some (r1, r2)) :
    Calls Tryd.prog 23 #[.string a0] w fun e w' => e = .returned (.tuple #[.string r1, .bool r2]) ∧ Below w.heap.size w w' := by
  have hu65 := Tryd.underlying65
  have HB := Aside0.mk (Below.refl w.heap.size w)
  have H : (impl_Unpack.l0 k ([] : List Int) a0 false) = some (r1, r2) := h
  clear h
  have H' := Aside0.mk H
  clear H
  go_enter Tryd.func23, Tryd.ntmps23
  go_wp2_with (first | ((with_reducible refine gate_dst (N := 10) rfl ?_); refine box_event ?hg (N := 10) ?hd (cs := #[.string a0, .bool false]) (t := 65) ?hr ?_; (case hd => rfl); (case hg => rfl); (case hr => first | (go_simp; done) | (go_simp; rfl)); intro gb350 hg w2 hbox hb; have n0_ := Aside0.mk (below_step (by repeat (first | (with_reducible first | exact HB.out | apply below_alloc | apply pw_below_drewN | apply below_drew1) | exact HB.out)) hb); have n1_ := Aside0.mk ((⟨hbox, by rw [hg]; exact (below_size (by repeat (first | (with_reducible first | exact HB.out | apply below_alloc | apply pw_below_drewN | apply below_drew1) | exact HB.out)))⟩ : IsS65 w w2 gb350 a0 false)); clear HB; have HB := n0_; have HI350 := n1_; clear n0_ n1_; clear hb hbox hg))
  go_loopg [5] k (fun kq v5 w' => ∃ (x5_1 : List Int) (x351000_1 : ByteArray) (x351001_1 : Bool), Aside0 (impl_Unpack.l0 kq x5_1 x351000_1 x351001_1 = some (r1, r2)) ∧ Aside0 (kq ≤ k) ∧ Aside0 (Kd.R (Kd.int .u8) 5 w' w.heap.size (fun _ => True) v5 x5_1) ∧ Aside0 (IsS65 w w' gb350 x351000_1 x351001_1) ∧ Aside0 (Below w.heap.size w w'))
  case atStart => exact ⟨(([] : List Int)), (a0), (false), H', ⟨Nat.le_refl _⟩, ⟨by first | exact Kd.R_nil _ _ _ _ _ | exact Kd.N_nil _ _ _ _ _ | exact Kd.V_nil _ _ _ _ _ | exact Kd.Q_nil _ _ _ _ _ | exact Kd.S_nil _ _ _ _ _⟩, ⟨by repeat (first | (with_reducible first | exact HI350.out | apply IsS65.alloc | apply IsS65.drewN | apply IsS65.drew | apply IsS65.set_0 | apply IsS65.set_1) | exact HI350.out)⟩, ⟨by repeat (first | (with_reducible first | exact HB.out | apply below_alloc | apply pw_below_drewN | apply below_drew1 | refine below_set ?_ (IsS65.ge HI350.out)) | exact HB.out)⟩⟩
  case round =>
    clear H'
    try clear c2
    try clear p2
    obtain ⟨x5_1, x351000_1, x351001_1, HA, HK1, HO_5, HI350, HB⟩ := hrel
    cases gk with
    | zero => exact absurd HA.out (by simp [impl_Unpack.l0])
    | succ k1 =>
      have H := HA.out
      clear HA
      simp only [impl_Unpack.l0] at H
      have HC3 := Aside0.mk H
      clear H
      go_upto_region 3 with (fail)
      go_cut [27] (fun v27 wc => ∃ (kq : Nat) (x27_2 : Bool), v27 = .bool x27_2 ∧ Aside0 (impl_Unpack.j1 kq x5_1 x27_2 x351000_1 x351001_1 = some (r1, r2)) ∧ Aside0 (kq ≤ k1) ∧ Aside0 (Kd.R (Kd.int .u8) 5 wc w.heap.size (fun _ => True) u5 x5_1) ∧ Aside0 (IsS65 w wc gb350 x351000_1 x351001_1) ∧ Aside0 (Below w.heap.size w wc))
      case first =>
        have H := HC3.out
        clear HC3
        by_cases c4 : x351000_1.toList = ([] : List UInt8)
        · rw [if_pos c4] at H
          have c4b0 : (x351000_1.toList == ([] : List UInt8)) = true := beq_iff_eq.mpr c4
          (try have c4b8 : x351000_1.toList.isEmpty = true := by have q_ := c4b0; revert q_; generalize x351000_1.toList = l_; cases l_ <;> simp)
          have c4b1 : (x351000_1.toList != ([] : List UInt8)) = false := bne_eq_false_iff_eq.mpr c4
          clear c4
          (first | rw [c4b0] | (simp only [i64_w, i32_w]; rw [c4b0]) | skip)
          (try rw [c4b8])
          have H' := Aside0.mk H
          clear H
          obtain ⟨HGz5, hgz5⟩ := HI350.out
          have hcz5_0 := cellS65_0 HGz5
          have hcz5_1 := cellS65_1 HGz5
          have hfz5_0 := blk_frozen HGz5 0
          have hfz5_1 := blk_frozen HGz5 1
          clear HGz5 hgz5
          go_wp2
          go_meet
          case rel => exact ⟨_, (false), (by first | rfl | (simp; done) | (simp [*]; done)), H', ⟨by have := HK1.out; first | omega | exact Nat.le_refl _⟩, ⟨by (with_reducible repeat (first | apply Kd.R_alloc | apply Kd.R_drewN | apply Kd.R_drew)); exact HO_5.out⟩, ⟨by repeat (first | (with_reducible first | exact HI350.out | apply IsS65.alloc | apply IsS65.drewN | apply IsS65.drew | apply IsS65.set_0 | apply IsS65.set_1) | exact HI350.out)⟩, ⟨by repeat (first | (with_reducible first | exact HB.out | apply below_alloc | apply pw_below_drewN | apply below_drew1 | refine below_set ?_ (IsS65.ge HI350.out)) | exact HB.out)⟩⟩
        · rw [if_neg c4] at H
          have c4b0 : (x351000_1.toList == ([] : List UInt8)) = false := beq_eq_false_iff_ne.mpr c4
          (try have c4b8 : x351000_1.toList.isEmpty = false := by have q_ := c4b0; revert q_; generalize x351000_1.toList = l_; cases l_ <;> simp)
          have c4b1 : (x351000_1.toList != ([] : List UInt8)) = true := bne_iff_ne.mpr c4
          (first | rw [c4b0] | (simp only [i64_w, i32_w]; rw [c4b0]) | skip)
          (try rw [c4b8])
          by_cases c6 : x351001_1 = true
          · subst c6
            have H1 : (impl_Unpack.j1 k1 x5_1 false x351000_1 true) = some (r1, r2) := by rw [if_pos rfl] at H; exact H
            clear H
            have H := H1
            clear H1
            have H' := Aside0.mk H
            clear H
            obtain ⟨HGz7, hgz7⟩ := HI350.out
            have hcz7_0 := cellS65_0 HGz7
            have hcz7_1 := cellS65_1 HGz7
            have hfz7_0 := blk_frozen HGz7 0
            have hfz7_1 := blk_frozen HGz7 1
            clear HGz7 hgz7
            go_wp2
            go_meet
            case rel => exact ⟨_, (false), (by first | rfl | (simp; done) | (simp [*]; done)), H', ⟨by have := HK1.out; first | omega | exact Nat.le_refl _⟩, ⟨by (with_reducible repeat (first | apply Kd.R_alloc | apply Kd.R_drewN | apply Kd.R_drew)); exact HO_5.out⟩, ⟨by repeat (first | (with_reducible first | exact HI350.out | apply IsS65.alloc | apply IsS65.drewN | apply IsS65.drew | apply IsS65.set_0 | apply IsS65.set_1) | exact HI350.out)⟩, ⟨by repeat (first | (with_reducible first | exact HB.out | apply below_alloc | apply pw_below_drewN | apply below_drew1 | refine below_set ?_ (IsS65.ge HI350.out)) | exact HB.out)⟩⟩
          · replace c6 := Bool.eq_false_iff.mpr c6
            subst c6
            have H1 : (impl_Unpack.j1 k1 x5_1 (decide ((x5_1.length : Int) ≤ 1600)) x351000_1 false) = some (r1, r2) := by rw [if_neg (show ¬ (false = true) by decide)] at H; exact H
            clear H
            have H := H1
            clear H1
            have H' := Aside0.mk H
            clear H
            obtain ⟨HGz8, hgz8⟩ := HI350.out
            have hcz8_0 := cellS65_0 HGz8
            have hcz8_1 := cellS65_1 HGz8
            have hfz8_0 := blk_frozen HGz8 0
            have hfz8_1 := blk_frozen HGz8 1
            clear HGz8 hgz8
            obtain ⟨Ao9, co9, eo9⟩ := Kd.R_slice HO_5.out
            subst eo9
            go_wp2
            go_meet
            case rel => exact ⟨_, (decide ((x5_1.length : Int) ≤ 1600)), (by first | rfl | (simp; done) | (simp [*]; done)), H', ⟨by have := HK1.out; first | omega | exact Nat.le_refl _⟩, ⟨by (with_reducible repeat (first | apply Kd.R_alloc | apply Kd.R_drewN | apply Kd.R_drew)); exact HO_5.out⟩, ⟨by repeat (first | (with_reducible first | exact HI350.out | apply IsS65.alloc | apply IsS65.drewN | apply IsS65.drew | apply IsS65.set_0 | apply IsS65.set_1) | exact HI350.out)⟩, ⟨by repeat (first | (with_reducible first | exact HB.out | apply below_alloc | apply pw_below_drewN | apply below_drew1 | refine below_set ?_ (IsS65.ge HI350.out)) | exact HB.out)⟩⟩
      case rest =>
        clear HC3
        try clear c2
        try clear p2
        try clear c4
        try clear c4b0
        try clear c4b1
        try clear c6
        try clear hcz5_0
        try clear hcz5_1
        try clear hcz7_0
        try clear hcz7_1
        try clear hcz8_0
        try clear hcz8_1
        try clear hfz5_0
        try clear hfz5_1
        try clear hfz7_0
        try clear hfz7_1
        try clear hfz8_0
        try clear hfz8_1
        try clear p2
        obtain ⟨kq, x27_2, rfl, HA, HJ2, HO_5, HI350, HB⟩ := hcut
        cases kq with
        | zero => exact absurd HA.out (by simp [impl_Unpack.j1])
        | succ kj2 =>
          have H := HA.out
          clear HA
          simp only [impl_Unpack.j1] at H
          by_cases c10 : x27_2 = true
          · subst c10
            have H1 : ((impl_taker_take.f x351000_1 x351001_1 1).bind fun bt351 => (if 0 < (bt351.1.size : Int) then (impl_Unpack.l1 kj2 x5_1 (bt bt351.1 0) 0 bt351.2.1 bt351.2.2) else (none))) = some (r1, r2) := by rw [if_pos rfl] at H; exact H
            clear H
            have H := H1
            clear H1
            replace H := Option.bind_eq_some_iff.mp H
            obtain ⟨⟨t351, t352, t353⟩, A110, H⟩ := H
            replace H : (if 0 < (t351.size : Int) then (impl_Unpack.l1 kj2 x5_1 (bt t351 0) 0 t352 t353) else (none)) = some (r1, r2) := H
            have A11 := Aside0.mk A110
            clear A110
            by_cases c12 : 0 < (t351.size : Int)
            · rw [if_pos c12] at H
              have c12b0 : decide (0 < (t351.size : Int)) = true := decide_eq_true c12
              have c12b1 : decide (0 < t351.size) = true := decide_eq_true (by omega)
              clear c12
              have H' := Aside0.mk H
              clear H
              go_wp2_with (first | ((with_reducible refine gate_callee (f := 56) rfl ?_); refine goesL_ (some 29) rfl rfl Tryd.func56 (by kernel_rfl) rfl #[.pointer (some ⟨gb350, 0, none⟩), .int .i64 1] rfl (by (try simp only [List.map_toArray, List.map_cons, List.map_nil]); first | done | rfl | (simp only [List.length_drop, List.length_take]; rfl)) ?_; (with_reducible refine (impl_taker_take.calls gb350 x351000_1 x351001_1 1 t351 t352 t353 w _ ?side1 ?side2 A11.out).mono ?_); (case side1 => repeat (first | (with_reducible first | exact HI350.out | apply IsS65.alloc | apply IsS65.drewN | apply IsS65.drew | apply IsS65.set_0 | apply IsS65.set_1) | exact HI350.out)); (case side2 => repeat (first | (with_reducible first | exact HB.out | apply below_alloc | apply pw_below_drewN | apply below_drew1 | refine below_set ?_ (IsS65.ge HI350.out)) | exact HB.out)); rintro e w14 ⟨rfl, hi, hb, hk⟩; refine ⟨_, rfl, ?_⟩; have n0_ := Aside0.mk (Kd.R_mono (Kd.R_keep (IsS65.apart (show IsS65 w _ gb350 x351000_1 x351001_1 from by repeat (first | (with_reducible first | exact HI350.out | apply IsS65.alloc | apply IsS65.drewN | apply IsS65.drew | apply IsS65.set_0 | apply IsS65.set_1) | exact HI350.out)) (by (with_reducible repeat (first | apply Kd.R_alloc | apply Kd.R_drewN | apply Kd.R_drew)); exact HO_5.out) (by decide)) hk (fun _ h => h.2)) (fun _ h => h.1)); have n1_ := Aside0.mk (hb); have n2_ := Aside0.mk (hi); clear HO_5; clear HB; clear HI350; have HO_5 := n0_; have HB := n1_; have HI350 := n2_; clear n0_ n1_ n2_; (try clear hb); (try clear hb2); (try clear hk); (try clear hi); have p13 : 0 ≤ (0 : Int) := (by omega); have q13 : 0 < t351.size := (by have : (0 : Int) < (t351.size : Int) := of_decide_eq_true (by first | (with_reducible assumption) | assumption); omega); have hx13 : ∀ h : 0 < t351.size, ((t351[0]'h).toNat : Int) = bt t351 0 := bt_at t351 0; clear p13; have qi13 : (0 < (t351.size : Int)) = True := eq_true (of_decide_eq_true (by first | (with_reducible assumption) | assumption)); replace q13 := eq_true q13))
              go_loopg [5, 31] kj2 (fun kq v5 v31 w' => ∃ (x5_3 : List Int) (x31_3 : Int) (x351000_3 : ByteArray) (x351001_3 : Bool), v31 = .int .i64 x31_3 ∧ Aside0 (impl_Unpack.l1 kq x5_3 (bt t351 0) x31_3 x351000_3 x351001_3 = some (r1, r2)) ∧ Aside0 (kq ≤ kj2) ∧ Aside0 (Kd.R (Kd.int .u8) 5 w' w.heap.size (fun _ => True) v5 x5_3) ∧ Aside0 (IsS65 w w' gb350 x351000_3 x351001_3) ∧ Aside0 (Below w.heap.size w w'))
              case atStart => exact ⟨(x5_1), (0), (t352), (t353), (by first | rfl | (simp; done) | (simp [*]; done)), H', ⟨Nat.le_refl _⟩, ⟨by (with_reducible repeat (first | apply Kd.R_alloc | apply Kd.R_drewN | apply Kd.R_drew)); exact HO_5.out⟩, ⟨by repeat (first | (with_reducible first | exact HI350.out | apply IsS65.alloc | apply IsS65.drewN | apply IsS65.drew | apply IsS65.set_0 | apply IsS65.set_1) | exact HI350.out)⟩, ⟨by repeat (first | (with_reducible first | exact HB.out | apply below_alloc | apply pw_below_drewN | apply below_drew1 | refine below_set ?_ (IsS65.ge HI350.out)) | exact HB.out)⟩⟩
              case round =>
                clear H'
                try clear c1
                try clear p1
                try clear q1
                try clear hx1
                try clear qi1
                try clear c2
                try clear p2
                try clear c4
                try clear c4b0
                try clear c4b1
                try clear c5
                try clear c6
                try clear c10
                try clear c12
                try clear c12b0
                try clear c12b1
                try clear p13
                try clear q13
                try clear hx13
                try clear qi13
                try clear hcz5_0
                try clear hcz5_1
                try clear hcz7_0
                try clear hcz7_1
                try clear hcz8_0
                try clear hcz8_1
                try clear hfz5_0
                try clear hfz5_1
                try clear hfz7_0
                try clear hfz7_1
                try clear hfz8_0
                try clear hfz8_1
                try clear p13
                try clear p2
                try clear q13
                obtain ⟨x5_3, x31_3, x351000_3, x351001_3, rfl, HA, HK3, HO_5, HI350, HB⟩ := hrel
                cases gk with
                | zero => exact absurd HA.out (by simp [impl_Unpack.l1])
                | succ k3 =>
                  have H := HA.out
                  clear HA
                  simp only [impl_Unpack.l1] at H
                  by_cases c15 : x31_3 < 8
                  · rw [if_pos c15] at H
                    have c15b0 : decide (x31_3 < 8) = true := decide_eq_true c15
                    clear c15
                    by_cases c16 : 0 ≤ x31_3
                    · rw [if_pos c16] at H
                      have c16b0 := eq_true c16
                      have c16b1 : decide (0 ≤ x31_3) = true := decide_eq_true c16
                      clear c16
                      obtain ⟨ji17, hji17⟩ : ∃ j_ : Int, (shr .u8 (bt t351 0) x31_3) = j_ := ⟨_, rfl⟩
                      replace H : (if (Go.bits .and .u8 (ji17) 1) = 1 then ((impl_taker_take.f x351000_3 x351001_3 1).bind fun bt354 => (if x5_3.length + bt354.1.size < 140737488355328 then (impl_Unpack.l1 k3 (x5_3 ++ bytesOf bt354.1) (bt t351 0) (wrap64 (x31_3 + 1)) bt354.2.1 bt354.2.2) else (none))) else (if x5_3.length < 140737488355328 then (impl_Unpack.l1 k3 (x5_3 ++ [0]) (bt t351 0) (wrap64 (x31_3 + 1)) x351000_3 x351001_3) else (none))) = some (r1, r2) := by first | (rw [hji17] at H; exact H) | (simp only [hji17] at H ⊢; exact H)
                      have hji17_ : ((bt t351 0) / 2 ^ min x31_3.toNat 8) = ji17 := hji17
                      have hji17z : x31_3 ≤ 8 → ((bt t351 0) / 2 ^ x31_3.toNat) = ji17 := shr_small hji17
                      by_cases c18 : (Go.bits .and .u8 (ji17) 1) = 1
                      · rw [if_pos c18] at H
                        have c18b0 : ((Go.bits .and .u8 (ji17) 1) == 1) = true := beq_iff_eq.mpr c18
                        have c18b1 : ((Go.bits .and .u8 (ji17) 1) != 1) = false := bne_eq_false_iff_eq.mpr c18
                        clear c18
                        replace H := Option.bind_eq_some_iff.mp H
                        obtain ⟨⟨t354, t355, t356⟩, A190, H⟩ := H
                        replace H : (if x5_3.length + t354.size < 140737488355328 then (impl_Unpack.l1 k3 (x5_3 ++ bytesOf t354) (bt t351 0) (wrap64 (x31_3 + 1)) t355 t356) else (none)) = some (r1, r2) := H
                        have A19 := Aside0.mk A190
                        clear A190
                        by_cases c20 : x5_3.length + t354.size < 140737488355328
                        · rw [if_pos c20] at H
                          have LMc20 := Aside0.mk c20
                          clear c20
                          obtain ⟨y357, hy357⟩ : ∃ y_ : List Int, y_ = (x5_3 ++ bytesOf t354) := ⟨_, rfl⟩
                          replace H : (impl_Unpack.l1 k3 y357 (bt t351 0) (wrap64 (x31_3 + 1)) t355 t356) = some (r1, r2) := by first | (rw [hy357]; with_reducible exact H) | (have H2_ := (Option.bind_some _ _).symm.trans H; rw [hy357]; with_reducible exact H2_) | (have H2_ := (Option.bind_some _ _).symm.trans H; with_reducible exact H2_) | with_reducible exact H | (rw [hy357]; exact H) | exact H
                          have Ny357 := Aside0.mk hy357
                          clear hy357
                          have H' := Aside0.mk H
                          clear H
                          go_wp2_with (first | ((with_reducible refine gate_callee (f := 56) rfl ?_); refine goesL_ (some 41) rfl rfl Tryd.func56 (by kernel_rfl) rfl #[.pointer (some ⟨gb350, 0, none⟩), .int .i64 1] rfl (by (try simp only [List.map_toArray, List.map_cons, List.map_nil]); first | done | rfl | (simp only [List.length_drop, List.length_take]; rfl)) ?_; (with_reducible refine (impl_taker_take.calls gb350 x351000_3 x351001_3 1 t354 t355 t356 w _ ?side1 ?side2 A19.out).mono ?_); (case side1 => repeat (first | (with_reducible first | exact HI350.out | apply IsS65.alloc | apply IsS65.drewN | apply IsS65.drew | apply IsS65.set_0 | apply IsS65.set_1) | exact HI350.out)); (case side2 => repeat (first | (with_reducible first | exact HB.out | apply below_alloc | apply pw_below_drewN | apply below_drew1 | refine below_set ?_ (IsS65.ge HI350.out)) | exact HB.out)); rintro e w21 ⟨rfl, hi, hb, hk⟩; refine ⟨_, rfl, ?_⟩; have n0_ := Aside0.mk (Kd.R_mono (Kd.R_keep (IsS65.apart (show IsS65 w _ gb350 x351000_3 x351001_3 from by repeat (first | (with_reducible first | exact HI350.out | apply IsS65.alloc | apply IsS65.drewN | apply IsS65.drew | apply IsS65.set_0 | apply IsS65.set_1) | exact HI350.out)) (by (with_reducible repeat (first | apply Kd.R_alloc | apply Kd.R_drewN | apply Kd.R_drew)); exact HO_5.out) (by decide)) hk (fun _ h => h.2)) (fun _ h => h.1)); have n1_ := Aside0.mk (hb); have n2_ := Aside0.mk (hi); clear HO_5; clear HB; clear HI350; have HO_5 := n0_; have HB := n1_; have HI350 := n2_; clear n0_ n1_ n2_; (try clear hb); (try clear hb2); (try clear hk); (try clear hi)) | (at_builtin; refine print_append_str (w0 := w) w.heap.size rfl (.tmp 39) _ 24 9 5 rfl Tryd.underlying24 Tryd.underlying9 info5 u5 x5_3 t354 rfl rfl ?aO ?aB ?aS ?aL ?_; (case aB => exact (by repeat (first | (with_reducible first | exact HB.out | apply below_alloc | apply pw_below_drewN | apply below_drew1 | refine below_set ?_ (IsS65.ge HI350.out)) | exact HB.out))); (case aO => exact (Kd.own_of_R (by (with_reducible repeat (first | apply Kd.R_alloc | apply Kd.R_drewN | apply Kd.R_drew)); exact HO_5.out))); (case aS => exact (below_size (by repeat (first | (with_reducible first | exact HB.out | apply below_alloc | apply pw_below_drewN | apply below_drew1 | refine below_set ?_ (IsS65.ge HI350.out)) | exact HB.out)))); (case aL => have := LMc20.out; omega); intro v358 w22 ho0 hb hg; have ho := Kd.R_of_own (h1 := fun _ => rfl) (ok := fun _ => True) ho0 (fun _ _ => trivial); clear ho0; have hat := True.intro; rw [← Ny357.out] at ho; change Kd.R (Kd.int .u8) 5 w22 w.heap.size (fun _ => True) v358 y357 at ho; have n0_ := Aside0.mk (IsS65.grown (by repeat (first | (with_reducible first | exact HI350.out | apply IsS65.alloc | apply IsS65.drewN | apply IsS65.drew | apply IsS65.set_0 | apply IsS65.set_1) | exact HI350.out)) hg (IsS65.own_ne HI350.out HO_5.out (by decide))); have n1_ := Aside0.mk (hb); have n2_ := Aside0.mk (ho); clear HI350; clear HB; clear HO_5; have HI350 := n0_; have HB := n1_; have HO359 := n2_; clear n0_ n1_ n2_; clear ho hb hg hat))
                          go_roundg k3
                          case measure => have := HK1.out; have := HJ2.out; have := HK3.out; omega
                          case rel => exact ⟨(y357), (wrap64 (x31_3 + 1)), (t355), (t356), (by first | rfl | (simp; done) | (simp [*]; done)), H', ⟨by have := HK1.out; have := HJ2.out; have := HK3.out; omega⟩, ⟨by (with_reducible repeat (first | apply Kd.R_alloc | apply Kd.R_drewN | apply Kd.R_drew)); exact HO359.out⟩, ⟨by repeat (first | (with_reducible first | exact HI350.out | apply IsS65.alloc | apply IsS65.drewN | apply IsS65.drew | apply IsS65.set_0 | apply IsS65.set_1) | exact HI350.out)⟩, ⟨by repeat (first | (with_reducible first | exact HB.out | apply below_alloc | apply pw_below_drewN | apply below_drew1 | refine below_set ?_ (IsS65.ge HI350.out)) | exact HB.out)⟩⟩
                        · rw [if_neg c20] at H
                          exact absurd H (by simp)
                      · rw [if_neg c18] at H
                        have c18b0 : ((Go.bits .and .u8 (ji17) 1) == 1) = false := beq_eq_false_iff_ne.mpr c18
                        have c18b1 : ((Go.bits .and .u8 (ji17) 1) != 1) = true := bne_iff_ne.mpr c18
                        by_cases c23 : x5_3.length < 140737488355328
                        · rw [if_pos c23] at H
                          have LMc23 := Aside0.mk c23
                          clear c23
                          obtain ⟨y360, hy360⟩ : ∃ y_ : List Int, y_ = (x5_3 ++ [0]) := ⟨_, rfl⟩
                          replace H : (impl_Unpack.l1 k3 y360 (bt t351 0) (wrap64 (x31_3 + 1)) x351000_3 x351001_3) = some (r1, r2) := by first | (rw [hy360]; with_reducible exact H) | (have H2_ := (Option.bind_some _ _).symm.trans H; rw [hy360]; with_reducible exact H2_) | (have H2_ := (Option.bind_some _ _).symm.trans H; with_reducible exact H2_) | with_reducible exact H | (rw [hy360]; exact H) | exact H
                          have Ny360 := Aside0.mk hy360
                          clear hy360
                          have H' := Aside0.mk H
                          clear H
                          go_wp2_with (first | ((with_reducible refine gate_builtin (b := .append) (xs := #[.tmp 43, .tmp 44]) rfl ?_); at_builtin; refine Kd.R_append (Kd.int .u8) (w0 := w) w.heap.size rfl (.tmp 43) (.tmp 44) 24 5 (.int .u8 0) 1 rfl Tryd.underlying24 info5 rfl (by decide) (by omega) u5 x5_3 0 [.int .u8 0] (fun _ => True) (fun _ => False) rfl rfl ?aP (fun _ hk => hk.elim) ?aF ?aO ?aB ?aS ?aL ?_; (case aP => exact rfl); (case aB => exact (by repeat (first | (with_reducible first | exact HB.out | apply below_alloc | apply pw_below_drewN | apply below_drew1 | refine below_set ?_ (IsS65.ge HI350.out)) | exact HB.out))); (case aF => exact (fun _ _ => trivial)); (case aO => exact (by (with_reducible repeat (first | apply Kd.R_alloc | apply Kd.R_drewN | apply Kd.R_drew)); exact HO_5.out)); (case aS => exact (below_size (by repeat (first | (with_reducible first | exact HB.out | apply below_alloc | apply pw_below_drewN | apply below_drew1 | refine below_set ?_ (IsS65.ge HI350.out)) | exact HB.out)))); (case aL => have := LMc23.out; omega); intro v361 w24 ho hb hg hat; rw [← Ny360.out] at ho; have n0_ := Aside0.mk (IsS65.grown (by repeat (first | (with_reducible first | exact HI350.out | apply IsS65.alloc | apply IsS65.drewN | apply IsS65.drew | apply IsS65.set_0 | apply IsS65.set_1) | exact HI350.out)) hg (IsS65.own_ne HI350.out HO_5.out (by decide))); have n1_ := Aside0.mk (hb); have n2_ := Aside0.mk (ho); clear HI350; clear HB; clear HO_5; have HI350 := n0_; have HB := n1_; have HO362 := n2_; clear n0_ n1_ n2_; clear ho hb hg hat))
                          go_roundg k3
                          case measure => have := HK1.out; have := HJ2.out; have := HK3.out; omega
                          case rel => exact ⟨(y360), (wrap64 (x31_3 + 1)), (x351000_3), (x351001_3), (by first | rfl | (simp; done) | (simp [*]; done)), H', ⟨by have := HK1.out; have := HJ2.out; have := HK3.out; omega⟩, ⟨by (with_reducible repeat (first | apply Kd.R_alloc | apply Kd.R_drewN | apply Kd.R_drew)); exact HO362.out⟩, ⟨by repeat (first | (with_reducible first | exact HI350.out | apply IsS65.alloc | apply IsS65.drewN | apply IsS65.drew | apply IsS65.set_0 | apply IsS65.set_1) | exact HI350.out)⟩, ⟨by repeat (first | (with_reducible first | exact HB.out | apply below_alloc | apply pw_below_drewN | apply below_drew1 | refine below_set ?_ (IsS65.ge HI350.out)) | exact HB.out)⟩⟩
                        · rw [if_neg c23] at H
                          exact absurd H (by simp)
                    · rw [if_neg c16] at H
                      exact absurd H (by simp)
                  · rw [if_neg c15] at H
                    have c15b0 : decide (x31_3 < 8) = false := decide_eq_false c15
                    clear c15
                    by_cases c25 : (bt t351 0) = 0
                    · rw [if_pos c25] at H
                      have c25b0 : ((bt t351 0) == 0) = true := beq_iff_eq.mpr c25
                      have c25b1 : ((bt t351 0) != 0) = false := bne_eq_false_iff_eq.mpr c25
                      clear c25
                      replace H := Option.bind_eq_some_iff.mp H
                      obtain ⟨⟨t363, t364, t365⟩, A260, H⟩ := H
                      replace H : (if 0 < (t363.size : Int) then (if 0 ≤ (wrap64 (8 * (wrap64 (bt t363 0)))) then (if x5_3.length + (wrap64 (8 * (wrap64 (bt t363 0))) : Int).toNat < 140737488355328 then (impl_Unpack.l0 k3 (x5_3 ++ List.replicate (wrap64 (8 * (wrap64 (bt t363 0))) : Int).toNat 0) t364 t365) else (none)) else (none)) else (none)) = some (r1, r2) := H
                      have A26 := Aside0.mk A260
                      clear A260
                      by_cases c27 : 0 < (t363.size : Int)
                      · rw [if_pos c27] at H
                        have c27b0 : decide (0 < (t363.size : Int)) = true := decide_eq_true c27
                        have c27b1 : decide (0 < t363.size) = true := decide_eq_true (by omega)
                        clear c27
                        obtain ⟨ji29, hji29⟩ : ∃ j_ : Int, (wrap64 (8 * (wrap64 (bt t363 0)))) = j_ := ⟨_, rfl⟩
                        replace H : (if 0 ≤ (ji29) then (if x5_3.length + (ji29 : Int).toNat < 140737488355328 then (impl_Unpack.l0 k3 (x5_3 ++ List.replicate (ji29 : Int).toNat 0) t364 t365) else (none)) else (none)) = some (r1, r2) := by first | (rw [hji29] at H; exact H) | (simp only [hji29] at H ⊢; exact H)
                        (try rw [hji29] at A26)
                        have hji29w : (IntKind.i64.wrap (8 * (wrap64 (bt t363 0)))) = ji29 := (i64_w _).trans hji29
                        by_cases c30 : 0 ≤ (ji29)
                        · rw [if_pos c30] at H
                          have c30b0 := eq_true c30
                          have c30b1 : decide (0 ≤ (ji29)) = true := decide_eq_true c30
                          clear c30
                          by_cases c31 : x5_3.length + (ji29 : Int).toNat < 140737488355328
                          · rw [if_pos c31] at H
                            have LMc31 := Aside0.mk c31
                            clear c31
                            obtain ⟨y366, hy366⟩ : ∃ y_ : List Int, y_ = (x5_3 ++ List.replicate (ji29 : Int).toNat 0) := ⟨_, rfl⟩
                            replace H : (impl_Unpack.l0 k3 y366 t364 t365) = some (r1, r2) := by first | (rw [hy366]; with_reducible exact H) | (have H2_ := (Option.bind_some _ _).symm.trans H; rw [hy366]; with_reducible exact H2_) | (have H2_ := (Option.bind_some _ _).symm.trans H; with_reducible exact H2_) | with_reducible exact H | (rw [hy366]; exact H) | exact H
                            have Ny366 := Aside0.mk hy366
                            clear hy366
                            have H' := Aside0.mk H
                            clear H
                            go_wp2_with (first | ((with_reducible refine gate_callee (f := 56) rfl ?_); refine goesL_ (some 52) rfl rfl Tryd.func56 (by kernel_rfl) rfl #[.pointer (some ⟨gb350, 0, none⟩), .int .i64 1] rfl (by (try simp only [List.map_toArray, List.map_cons, List.map_nil]); first | done | rfl | (simp only [List.length_drop, List.length_take]; rfl)) ?_; (with_reducible refine (impl_taker_take.calls gb350 x351000_3 x351001_3 1 t363 t364 t365 w _ ?side1 ?side2 A26.out).mono ?_); (case side1 => repeat (first | (with_reducible first | exact HI350.out | apply IsS65.alloc | apply IsS65.drewN | apply IsS65.drew | apply IsS65.set_0 | apply IsS65.set_1) | exact HI350.out)); (case side2 => repeat (first | (with_reducible first | exact HB.out | apply below_alloc | apply pw_below_drewN | apply below_drew1 | refine below_set ?_ (IsS65.ge HI350.out)) | exact HB.out)); rintro e w32 ⟨rfl, hi, hb, hk⟩; refine ⟨_, rfl, ?_⟩; have n0_ := Aside0.mk (Kd.R_mono (Kd.R_keep (IsS65.apart (show IsS65 w _ gb350 x351000_3 x351001_3 from by repeat (first | (with_reducible first | exact HI350.out | apply IsS65.alloc | apply IsS65.drewN | apply IsS65.drew | apply IsS65.set_0 | apply IsS65.set_1) | exact HI350.out)) (by (with_reducible repeat (first | apply Kd.R_alloc | apply Kd.R_drewN | apply Kd.R_drew)); exact HO_5.out) (by decide)) hk (fun _ h => h.2)) (fun _ h => h.1)); have n1_ := Aside0.mk (hb); have n2_ := Aside0.mk (hi); clear HO_5; clear HB; clear HI350; have HO_5 := n0_; have HB := n1_; have HI350 := n2_; clear n0_ n1_ n2_; (try clear hb); (try clear hb2); (try clear hk); (try clear hi); have p28 : 0 ≤ (0 : Int) := (by omega); have q28 : 0 < t363.size := (by have : (0 : Int) < (t363.size : Int) := of_decide_eq_true (by first | (with_reducible assumption) | assumption); omega); have hx28 : ∀ h : 0 < t363.size, ((t363[0]'h).toNat : Int) = bt t363 0 := bt_at t363 0; clear p28; have qi28 : (0 < (t363.size : Int)) = True := eq_true (of_decide_eq_true (by first | (with_reducible assumption) | assumption)); replace q28 := eq_true q28) | (at_builtin; refine Kd.R_append_zeros (Kd.int .u8) (w0 := w) w.heap.size rfl (.tmp 50) (.tmp 55) 24 3 5 (.int .u8 0) 1 rfl Tryd.underlying24 Tryd.underlying3 info5 rfl (by decide) (by omega) u5 x5_3 0 (ji29 : Int) (fun _ => True) rfl rfl rfl ?aF ?aO (of_decide_eq_true (by first | (with_reducible assumption) | assumption)) ?aB ?aS ?aL ?_; (case aB => exact (by repeat (first | (with_reducible first | exact HB.out | apply below_alloc | apply pw_below_drewN | apply below_drew1 | refine below_set ?_ (IsS65.ge HI350.out)) | exact HB.out))); (case aF => exact (fun _ _ => trivial)); (case aO => exact (by (with_reducible repeat (first | apply Kd.R_alloc | apply Kd.R_drewN | apply Kd.R_drew)); exact HO_5.out)); (case aS => exact (below_size (by repeat (first | (with_reducible first | exact HB.out | apply below_alloc | apply pw_below_drewN | apply below_drew1 | refine below_set ?_ (IsS65.ge HI350.out)) | exact HB.out)))); (case aL => have := LMc31.out; omega); intro v367 w33 ho hb hg hat; rw [← Ny366.out] at ho; have n0_ := Aside0.mk (IsS65.grown (by repeat (first | (with_reducible first | exact HI350.out | apply IsS65.alloc | apply IsS65.drewN | apply IsS65.drew | apply IsS65.set_0 | apply IsS65.set_1) | exact HI350.out)) hg (IsS65.own_ne HI350.out HO_5.out (by decide))); have n1_ := Aside0.mk (hb); have n2_ := Aside0.mk (ho); clear HI350; clear HB; clear HO_5; have HI350 := n0_; have HB := n1_; have HO368 := n2_; clear n0_ n1_ n2_; clear ho hb hg hat))
                            go_roundg k3
                            case measure => have := HK1.out; have := HJ2.out; have := HK3.out; omega
                            case rel => exact ⟨(y366), (t364), (t365), H', ⟨by have := HK1.out; have := HJ2.out; have := HK3.out; omega⟩, ⟨by (with_reducible repeat (first | apply Kd.R_alloc | apply Kd.R_drewN | apply Kd.R_drew)); exact HO368.out⟩, ⟨by repeat (first | (with_reducible first | exact HI350.out | apply IsS65.alloc | apply IsS65.drewN | apply IsS65.drew | apply IsS65.set_0 | apply IsS65.set_1) | exact HI350.out)⟩, ⟨by repeat (first | (with_reducible first | exact HB.out | apply below_alloc | apply pw_below_drewN | apply below_drew1 | refine below_set ?_ (IsS65.ge HI350.out)) | exact HB.out)⟩⟩
                          · rw [if_neg c31] at H
                            exact absurd H (by simp)
                        · rw [if_neg c30] at H
                          exact absurd H (by simp)
                      · rw [if_neg c27] at H
                        exact absurd H (by simp)
                    · rw [if_neg c25] at H
                      have c25b0 : ((bt t351 0) == 0) = false := beq_eq_false_iff_ne.mpr c25
                      have c25b1 : ((bt t351 0) != 0) = true := bne_iff_ne.mpr c25
                      by_cases c34 : (bt t351 0) = 255
                      · rw [if_pos c34] at H
                        have c34b0 : ((bt t351 0) == 255) = true := beq_iff_eq.mpr c34
                        have c34b1 : ((bt t351 0) != 255) = false := bne_eq_false_iff_eq.mpr c34
                        clear c34
                        replace H := Option.bind_eq_some_iff.mp H
                        obtain ⟨⟨t369, t370, t371⟩, A350, H⟩ := H
                        replace H : (if 0 < (t369.size : Int) then ((impl_taker_take.f t370 t371 (wrap64 (8 * (wrap64 (bt t369 0))))).bind fun bt372 => (if x5_3.length + bt372.1.size < 140737488355328 then (impl_Unpack.l0 k3 (x5_3 ++ bytesOf bt372.1) bt372.2.1 bt372.2.2) else (none))) else (none)) = some (r1, r2) := H
                        have A35 := Aside0.mk A350
                        clear A350
                        by_cases c36 : 0 < (t369.size : Int)
                        · rw [if_pos c36] at H
                          have c36b0 : decide (0 < (t369.size : Int)) = true := decide_eq_true c36
                          have c36b1 : decide (0 < t369.size) = true := decide_eq_true (by omega)
                          clear c36
                          replace H := Option.bind_eq_some_iff.mp H
                          obtain ⟨⟨t372, t373, t374⟩, A380, H⟩ := H
                          replace H : (if x5_3.length + t372.size < 140737488355328 then (impl_Unpack.l0 k3 (x5_3 ++ bytesOf t372) t373 t374) else (none)) = some (r1, r2) := H
                          have A38 := Aside0.mk A380
                          clear A380
                          by_cases c39 : x5_3.length + t372.size < 140737488355328
                          · rw [if_pos c39] at H
                            have LMc39 := Aside0.mk c39
                            clear c39
                            obtain ⟨y375, hy375⟩ : ∃ y_ : List Int, y_ = (x5_3 ++ bytesOf t372) := ⟨_, rfl⟩
                            replace H : (impl_Unpack.l0 k3 y375 t373 t374) = some (r1, r2) := by first | (rw [hy375]; with_reducible exact H) | (have H2_ := (Option.bind_some _ _).symm.trans H; rw [hy375]; with_reducible exact H2_) | (have H2_ := (Option.bind_some _ _).symm.trans H; with_reducible exact H2_) | with_reducible exact H | (rw [hy375]; exact H) | exact H
                            have Ny375 := Aside0.mk hy375
                            clear hy375
                            have H' := Aside0.mk H
                            clear H
                            go_wp2_with (first | ((with_reducible refine gate_callee (f := 56) rfl ?_); refine goesL_ (some 62) rfl rfl Tryd.func56 (by kernel_rfl) rfl #[.pointer (some ⟨gb350, 0, none⟩), .int .i64 1] rfl (by (try simp only [List.map_toArray, List.map_cons, List.map_nil]); first | done | rfl | (simp only [List.length_drop, List.length_take]; rfl)) ?_; (with_reducible refine (impl_taker_take.calls gb350 x351000_3 x351001_3 1 t369 t370 t371 w _ ?side1 ?side2 A35.out).mono ?_); (case side1 => repeat (first | (with_reducible first | exact HI350.out | apply IsS65.alloc | apply IsS65.drewN | apply IsS65.drew | apply IsS65.set_0 | apply IsS65.set_1) | exact HI350.out)); (case side2 => repeat (first | (with_reducible first | exact HB.out | apply below_alloc | apply pw_below_drewN | apply below_drew1 | refine below_set ?_ (IsS65.ge HI350.out)) | exact HB.out)); rintro e w40 ⟨rfl, hi, hb, hk⟩; refine ⟨_, rfl, ?_⟩; have n0_ := Aside0.mk (Kd.R_mono (Kd.R_keep (IsS65.apart (show IsS65 w _ gb350 x351000_3 x351001_3 from by repeat (first | (with_reducible first | exact HI350.out | apply IsS65.alloc | apply IsS65.drewN | apply IsS65.drew | apply IsS65.set_0 | apply IsS65.set_1) | exact HI350.out)) (by (with_reducible repeat (first | apply Kd.R_alloc | apply Kd.R_drewN | apply Kd.R_drew)); exact HO_5.out) (by decide)) hk (fun _ h => h.2)) (fun _ h => h.1)); have n1_ := Aside0.mk (hb); have n2_ := Aside0.mk (hi); clear HO_5; clear HB; clear HI350; have HO_5 := n0_; have HB := n1_; have HI350 := n2_; clear n0_ n1_ n2_; (try clear hb); (try clear hb2); (try clear hk); (try clear hi); have p37 : 0 ≤ (0 : Int) := (by omega); have q37 : 0 < t369.size := (by have : (0 : Int) < (t369.size : Int) := of_decide_eq_true (by first | (with_reducible assumption) | assumption); omega); have hx37 : ∀ h : 0 < t369.size, ((t369[0]'h).toNat : Int) = bt t369 0 := bt_at t369 0; clear p37; have qi37 : (0 < (t369.size : Int)) = True := eq_true (of_decide_eq_true (by first | (with_reducible assumption) | assumption)); replace q37 := eq_true q37) | ((with_reducible refine gate_callee (f := 56) rfl ?_); refine goesL_ (some 66) rfl rfl Tryd.func56 (by kernel_rfl) rfl #[.pointer (some ⟨gb350, 0, none⟩), .int .i64 (wrap64 (8 * (wrap64 (bt t369 0))))] rfl (by (try simp only [List.map_toArray, List.map_cons, List.map_nil]); first | done | rfl | (simp only [List.length_drop, List.length_take]; rfl)) ?_; (with_reducible refine (impl_taker_take.calls gb350 t370 t371 (wrap64 (8 * (wrap64 (bt t369 0)))) t372 t373 t374 w _ ?side1 ?side2 A38.out).mono ?_); (case side1 => repeat (first | (with_reducible first | exact HI350.out | apply IsS65.alloc | apply IsS65.drewN | apply IsS65.drew | apply IsS65.set_0 | apply IsS65.set_1) | exact HI350.out)); (case side2 => repeat (first | (with_reducible first | exact HB.out | apply below_alloc | apply pw_below_drewN | apply below_drew1 | refine below_set ?_ (IsS65.ge HI350.out)) | exact HB.out)); rintro e w41 ⟨rfl, hi, hb, hk⟩; refine ⟨_, rfl, ?_⟩; have n0_ := Aside0.mk (Kd.R_mono (Kd.R_keep (IsS65.apart (show IsS65 w _ gb350 t370 t371 from by repeat (first | (with_reducible first | exact HI350.out | apply IsS65.alloc | apply IsS65.drewN | apply IsS65.drew | apply IsS65.set_0 | apply IsS65.set_1) | exact HI350.out)) (by (with_reducible repeat (first | apply Kd.R_alloc | apply Kd.R_drewN | apply Kd.R_drew)); exact HO_5.out) (by decide)) hk (fun _ h => h.2)) (fun _ h => h.1)); have n1_ := Aside0.mk (hb); have n2_ := Aside0.mk (hi); clear HO_5; clear HB; clear HI350; have HO_5 := n0_; have HB := n1_; have HI350 := n2_; clear n0_ n1_ n2_; (try clear hb); (try clear hb2); (try clear hk); (try clear hi)) | (at_builtin; refine print_append_str (w0 := w) w.heap.size rfl (.tmp 59) _ 24 9 5 rfl Tryd.underlying24 Tryd.underlying9 info5 u5 x5_3 t372 rfl rfl ?aO ?aB ?aS ?aL ?_; (case aB => exact (by repeat (first | (with_reducible first | exact HB.out | apply below_alloc | apply pw_below_drewN | apply below_drew1 | refine below_set ?_ (IsS65.ge HI350.out)) | exact HB.out))); (case aO => exact (Kd.own_of_R (by (with_reducible repeat (first | apply Kd.R_alloc | apply Kd.R_drewN | apply Kd.R_drew)); exact HO_5.out))); (case aS => exact (below_size (by repeat (first | (with_reducible first | exact HB.out | apply below_alloc | apply pw_below_drewN | apply below_drew1 | refine below_set ?_ (IsS65.ge HI350.out)) | exact HB.out)))); (case aL => have := LMc39.out; omega); intro v376 w42 ho0 hb hg; have ho := Kd.R_of_own (h1 := fun _ => rfl) (ok := fun _ => True) ho0 (fun _ _ => trivial); clear ho0; have hat := True.intro; rw [← Ny375.out] at ho; change Kd.R (Kd.int .u8) 5 w42 w.heap.size (fun _ => True) v376 y375 at ho; have n0_ := Aside0.mk (IsS65.grown (by repeat (first | (with_reducible first | exact HI350.out | apply IsS65.alloc | apply IsS65.drewN | apply IsS65.drew | apply IsS65.set_0 | apply IsS65.set_1) | exact HI350.out)) hg (IsS65.own_ne HI350.out HO_5.out (by decide))); have n1_ := Aside0.mk (hb); have n2_ := Aside0.mk (ho); clear HI350; clear HB; clear HO_5; have HI350 := n0_; have HB := n1_; have HO377 := n2_; clear n0_ n1_ n2_; clear ho hb hg hat))
                            go_roundg k3
                            case measure => have := HK1.out; have := HJ2.out; have := HK3.out; omega
                            case rel => exact ⟨(y375), (t373), (t374), H', ⟨by have := HK1.out; have := HJ2.out; have := HK3.out; omega⟩, ⟨by (with_reducible repeat (first | apply Kd.R_alloc | apply Kd.R_drewN | apply Kd.R_drew)); exact HO377.out⟩, ⟨by repeat (first | (with_reducible first | exact HI350.out | apply IsS65.alloc | apply IsS65.drewN | apply IsS65.drew | apply IsS65.set_0 | apply IsS65.set_1) | exact HI350.out)⟩, ⟨by repeat (first | (with_reducible first | exact HB.out | apply below_alloc | apply pw_below_drewN | apply below_drew1 | refine below_set ?_ (IsS65.ge HI350.out)) | exact HB.out)⟩⟩
                          · rw [if_neg c39] at H
                            exact absurd H (by simp)
                        · rw [if_neg c36] at H
                          exact absurd H (by simp)
                      · rw [if_neg c34] at H
                        have c34b0 : ((bt t351 0) == 255) = false := beq_eq_false_iff_ne.mpr c34
                        have c34b1 : ((bt t351 0) != 255) = true := bne_iff_ne.mpr c34
                        have H' := Aside0.mk H
                        clear H
                        go_wp2
                        go_roundg k3
                        case measure => have := HK1.out; have := HJ2.out; have := HK3.out; omega
                        case rel => exact ⟨(x5_3), (x351000_3), (x351001_3), H', ⟨by have := HK1.out; have := HJ2.out; have := HK3.out; omega⟩, ⟨by (with_reducible repeat (first | apply Kd.R_alloc | apply Kd.R_drewN | apply Kd.R_drew)); exact HO_5.out⟩, ⟨by repeat (first | (with_reducible first | exact HI350.out | apply IsS65.alloc | apply IsS65.drewN | apply IsS65.drew | apply IsS65.set_0 | apply IsS65.set_1) | exact HI350.out)⟩, ⟨by repeat (first | (with_reducible first | exact HB.out | apply below_alloc | apply pw_below_drewN | apply below_drew1 | refine below_set ?_ (IsS65.ge HI350.out)) | exact HB.out)⟩⟩
            · rw [if_neg c12] at H
              exact absurd H (by simp)
          · replace c10 := Bool.eq_false_iff.mpr c10
            subst c10
            have H1 : (if x351001_1 = true then (some ((⟨#[]⟩ : ByteArray), false)) else (if (x5_1.length : Int) > 1600 then (some ((⟨#[]⟩ : ByteArray), false)) else (some (strOfNums x5_1, true)))) = some (r1, r2) := by rw [if_neg (show ¬ (false = true) by decide)] at H; exact H
            clear H
            have H := H1
            clear H1
            by_cases c43 : x351001_1 = true
            · subst c43
              have H1 : (some ((⟨#[]⟩ : ByteArray), false)) = some (r1, r2) := by rw [if_pos rfl] at H; exact H
              clear H
              have H := H1
              clear H1
              simp only [Option.some.injEq, Prod.mk.injEq] at H
              obtain ⟨rfl, rfl⟩ := H
              obtain ⟨HGz44, hgz44⟩ := HI350.out
              have hcz44_0 := cellS65_0 HGz44
              have hcz44_1 := cellS65_1 HGz44
              have hfz44_0 := blk_frozen HGz44 0
              have hfz44_1 := blk_frozen HGz44 1
              clear HGz44 hgz44
              go_wp2
              go_ret2
              exact ⟨by first | rfl | (simp [errW_none, errW_some] <;> rfl) | (simp [*, errW_none, errW_some] <;> rfl) | (simp only [Bool.and_eq_true, beq_iff_eq, Bool.not_eq_true', Bool.not_eq_eq_eq_not, Bool.not_true, Bool.not_false] at *; simp [*]), by repeat (first | (with_reducible first | exact HB.out | apply below_alloc | apply pw_below_drewN | apply below_drew1 | refine below_set ?_ (IsS65.ge HI350.out)) | exact HB.out)⟩
            · replace c43 := Bool.eq_false_iff.mpr c43
              subst c43
              have H1 : (if (x5_1.length : Int) > 1600 then (some ((⟨#[]⟩ : ByteArray), false)) else (some (strOfNums x5_1, true))) = some (r1, r2) := by rw [if_neg (show ¬ (false = true) by decide)] at H; exact H
              clear H
              have H := H1
              clear H1
              by_cases c45 : (x5_1.length : Int) > 1600
              · rw [if_pos c45] at H
                have c45b0 : decide (1600 < (x5_1.length : Int)) = true := decide_eq_true c45
                have c45b1 : decide (1600 < x5_1.length) = true := decide_eq_true (by omega)
                clear c45
                simp only [Option.some.injEq, Prod.mk.injEq] at H
                obtain ⟨rfl, rfl⟩ := H
                obtain ⟨HGz46, hgz46⟩ := HI350.out
                have hcz46_0 := cellS65_0 HGz46
                have hcz46_1 := cellS65_1 HGz46
                have hfz46_0 := blk_frozen HGz46 0
                have hfz46_1 := blk_frozen HGz46 1
                clear HGz46 hgz46
                obtain ⟨Ao47, co47, eo47⟩ := Kd.R_slice HO_5.out
                subst eo47
                go_wp2
                go_ret2
                exact ⟨by first | rfl | (simp [errW_none, errW_some] <;> rfl) | (simp [*, errW_none, errW_some] <;> rfl) | (simp only [Bool.and_eq_true, beq_iff_eq, Bool.not_eq_true', Bool.not_eq_eq_eq_not, Bool.not_true, Bool.not_false] at *; simp [*]), by repeat (first | (with_reducible first | exact HB.out | apply below_alloc | apply pw_below_drewN | apply below_drew1 | refine below_set ?_ (IsS65.ge HI350.out)) | exact HB.out)⟩
              · rw [if_neg c45] at H
                have c45b0 : decide (1600 < (x5_1.length : Int)) = false := decide_eq_false c45
                have c45b1 : decide (1600 < x5_1.length) = false := decide_eq_false (by omega)
                clear c45
                simp only [Option.some.injEq, Prod.mk.injEq] at H
                obtain ⟨rfl, rfl⟩ := H
                obtain ⟨HGz48, hgz48⟩ := HI350.out
                have hcz48_0 := cellS65_0 HGz48
                have hcz48_1 := cellS65_1 HGz48
                have hfz48_0 := blk_frozen HGz48 0
                have hfz48_1 := blk_frozen HGz48 1
                clear HGz48 hgz48
                obtain ⟨Ao49, co49, eo49⟩ := Kd.R_slice HO_5.out
                subst eo49
                have hcv50 := own_string (P := Tryd.prog) Tryd.underlying24 Tryd.underlying5 Tryd.underlying9 (Kd.own_of_R HO_5.out)
                go_wp2
                go_ret2
                exact ⟨by first | rfl | (simp [errW_none, errW_some] <;> rfl) | (simp [*, errW_none, errW_some] <;> rfl) | (simp only [Bool.and_eq_true, beq_iff_eq, Bool.not_eq_true', Bool.not_eq_eq_eq_not, Bool.not_true, Bool.not_false] at *; simp [*]), by repeat (first | (with_reducible first | exact HB.out | apply below_alloc | apply pw_below_drewN | apply below_drew1 | refine below_set ?_ (IsS65.ge HI350.out)) | exact HB.out)⟩

end Go.Proofs.YteocobbddngllaaDoor.P
