/- The program's LayoutBits, walked. -/
import Derived.Test.YtjjcepnadjociaaDoorStubLayout
import Derived.Test.YtjjcepnadjociaaDoorStubFieldsOk
import Derived.Test.YtjjcepnadjociaaDoorLemLay
namespace Go.Proofs.YtjjcepnadjociaaDoor
set_option linter.unusedVariables false
set_option linter.unusedSimpArgs false
open Go.RowKit Go.Proofs.YtjjcepnadjociaaDoor.Lem Go.Proofs.YtjjcepnadjociaaDoor.P Go.Proofs.YtjjcepnadjociaaDoorW.PrintWords Go.Proofs.YtjjcepnadjociaaDoorW.PrintLast Go.Proofs.YtjjcepnadjociaaDoorW.PrintMore
/-- Whether fields are ok. -/
def okF (l : List S27) : Bool := decide ((l.length : Int) ≤ 12) && !(l.any badField)
theorem okF_good {l : List S27} (h : okF l = true) : FieldsGood l := by
  unfold okF at h
  rw [Bool.and_eq_true, decide_eq_true_eq, Bool.not_eq_true', List.any_eq_false] at h
  refine ⟨by omega, fun f hf => ?_⟩
  have := h.2 f hf
  unfold badField at this
  rw [Bool.or_eq_true, not_or] at this
  have := this.1
  simp only [Bool.not_eq_true', decide_eq_false_iff_not, Classical.not_not] at this
  exact this
/-- A field's size, and where it stands. -/
def sizeAt (l : List S27) (a : Int) : Int := (rd_T27 l a).f0
def slotAt (l : List S27) (a : Int) : Int := (rd_T34 ((layS l).1.map S34.mk) a).f0
theorem scl_bits (s : Int) (h : 1 ≤ s ∧ s ≤ 5) : bitsOf s = 2 ^ scl s := by
  rcases (by omega : s = 1 ∨ s = 2 ∨ s = 3 ∨ s = 4 ∨ s = 5) with rfl | rfl | rfl | rfl | rfl <;> decide
/-- The fields, laid. -/
def laidF (l : List S27) : FL := zipL (l.map fieldP) (layS l).1
theorem laidF_get (l : List S27) (i : Nat) (h : i < l.length) : (laidF l)[i]? = some ((sizeAt l i, (rd_T27 l i).f1), slotAt l i) := by
  have hn : (layS l).1.length = l.length := by unfold layS; rw [layP_length, List.length_map]
  unfold laidF zipL
  rw [List.getElem?_zip_eq_some.mpr ⟨?_, ?_⟩]
  · rw [List.getElem?_map, List.getElem?_eq_getElem h]
    unfold sizeAt rd_T27
    rw [Int.toNat_natCast, List.getD_eq_getElem?_getD, List.getElem?_eq_getElem h]
    rfl
  · unfold slotAt rd_T34
    rw [Int.toNat_natCast, List.getD_eq_getElem?_getD, List.getElem?_map, List.getElem?_eq_getElem (by omega)]
    rfl
theorem laid_finv (l : List S27) : ∃ B, FInv (layS l).2 B (laidF l) := lay_finv (l.map fieldP)
theorem sizeAt_good {l : List S27} (hG : FieldsGood l) (i : Nat) (h : i < l.length) : 1 ≤ sizeAt l i ∧ sizeAt l i ≤ 6 := by
  unfold sizeAt rd_T27
  rw [Int.toNat_natCast, List.getD_eq_getElem?_getD, List.getElem?_eq_getElem h]
  exact hG.2 _ (List.getElem_mem h)
/-- A field of data lies within the words. -/
theorem slot_range {l : List S27} (hG : FieldsGood l) (i : Nat) (h : i < l.length) (h6 : sizeAt l i ≠ 6) : 0 ≤ slotAt l i * 2 ^ scl (sizeAt l i) ∧ slotAt l i * 2 ^ scl (sizeAt l i) + 2 ^ scl (sizeAt l i) ≤ 64 * (layS l).2.words ∧ (layS l).2.words ≤ 24 := by
  obtain ⟨B, F⟩ := laid_finv l
  have hi := layS_inv l
  have hl := hG.1
  have hw : (layS l).2.words ≤ 24 := by have := hi.words; omega
  have hg := laidF_get l i h
  cases hc : (rd_T27 l i).f1 with
  | false =>
    rw [hc] at hg
    have := F.led.blk _ (F.field i _ hg h6 rfl)
    exact ⟨this.1, this.2, hw⟩
  | true =>
    rw [hc] at hg
    obtain ⟨r, a, b, c⟩ := F.choice i _ hg h6 rfl
    have h1 := F.led.blk _ a
    have h2 := p2mono c
    have b' : slotAt l i * 2 ^ scl (sizeAt l i) = r.1 := b
    have h1' : 0 ≤ r.1 ∧ r.1 + 2 ^ r.2 ≤ 64 * (layS l).2.words := h1
    have h2' : (2 : Int) ^ scl (sizeAt l i) ≤ 2 ^ r.2 := h2
    rw [b']
    exact ⟨h1'.1, by omega, hw⟩
theorem slot_range2 {l : List S27} (hG : FieldsGood l) (i : Nat) (h : i < l.length) (h6 : sizeAt l i ≠ 6) : bitsOf (sizeAt l i) = 2 ^ scl (sizeAt l i) ∧ 1 ≤ bitsOf (sizeAt l i) ∧ bitsOf (sizeAt l i) ≤ 64 ∧ 0 ≤ slotAt l i ∧ slotAt l i ≤ 1536 ∧ 0 ≤ slotAt l i * bitsOf (sizeAt l i) ∧ slotAt l i * bitsOf (sizeAt l i) + bitsOf (sizeAt l i) ≤ 1536 := by
  have hs := sizeAt_good hG i h
  obtain ⟨a, b, c⟩ := slot_range hG i h h6
  have e := scl_bits (sizeAt l i) ⟨hs.1, by omega⟩
  have hp := p2pos (scl (sizeAt l i))
  have hr := bitsOf_range (sizeAt l i)
  rw [← e] at a b hp
  refine ⟨e, hp, hr.2, ?_, ?_, a, by omega⟩
  · rcases Int.lt_or_le (slotAt l i) 0 with hn | hn
    · have := Int.mul_le_mul_of_nonneg_right (show slotAt l i ≤ -1 by omega) hr.1
      omega
    · exact hn
  · rcases Int.lt_or_le 1536 (slotAt l i) with hn | hn
    · have h1 : slotAt l i * 1 ≤ slotAt l i * bitsOf (sizeAt l i) := Int.mul_le_mul_of_nonneg_left hp (by omega)
      omega
    · exact hn
def impl_LayoutBits.f (l0 : List S27) (a1 : Int) : Option (Int × Int) :=
  if okF l0 = true ∧ 0 ≤ a1 ∧ a1 ≤ (l0.length : Int) - 1 ∧ sizeAt l0 a1 ≠ 6 then some (slotAt l0 a1 * bitsOf (sizeAt l0 a1), slotAt l0 a1 * bitsOf (sizeAt l0 a1) + bitsOf (sizeAt l0 a1)) else some (0, 0)
theorem lbin_f (a b c : Int) : impl_in.f a b c = some (decide (b ≤ a ∧ a ≤ c)) := by
  unfold impl_in.f
  by_cases h : a ≥ b
  · rw [if_pos h]
    congr 1
    rw [decide_eq_decide]
    omega
  · rw [if_neg h]
    congr 1
    exact (decide_eq_false (by omega)).symm
set_option maxHeartbeats 4000000 in
set_option maxRecDepth 100000 in
theorem impl_LayoutBits.calls (A0 : Option Addr) (c0 : Nat) (l0 : List S27) (a1 : Int) (r1 r2 : Int) (w : World) (hSB : SBw w) (hr0 : Kd.C k27 w A0 l0.length l0) (hc0 : l0.length ≤ c0) (h : impl_LayoutBits.f l0 a1 = some (r1, r2)) :
    Calls Tryd.prog 18 #[.slice A0 l0.length c0, .int .i64 a1] w fun e w' => e = .returned (.tuple #[.int .i64 r1, .int .i64 r2]) ∧ Below w.heap.size w w' := by
  have hok := impl_FieldsOk.calls A0 c0 l0 (okF l0) w hSB hr0 hc0 rfl
  have hfd : ∀ (x y t : Int) (a : Option Addr) (m c : Nat) (W : World), (Instr.field 30 (.agg #[.int .i64 x, .int .i64 y, .slice a m c, .int .i64 t]) 2).run Tryd.prog W = .ok (.slice a m c) W := fun _ _ _ _ _ _ _ => by kernel_rfl
  unfold impl_LayoutBits.f at h
  by_cases hk : okF l0 = true
  · have hG := okF_good hk
    have hlen := hG.1
    have hw1 : wrap64 ((l0.length : Int) - 1) = (l0.length : Int) - 1 := w64 (by omega) (by omega)
    rw [hk] at hok
    have hin := fun (W : World) => impl_in.calls a1 0 ((l0.length : Int) - 1) _ W (lbin_f _ _ _)
    by_cases hr : 0 ≤ a1 ∧ a1 ≤ (l0.length : Int) - 1
    · obtain ⟨i, rfl⟩ : ∃ i : Nat, a1 = i := ⟨a1.toNat, by omega⟩
      have hlt : i < l0.length := by omega
      have hd : decide (0 ≤ (i : Int) ∧ (i : Int) ≤ (l0.length : Int) - 1) = true := decide_eq_true hr
      rw [hd] at hin
      obtain ⟨ad, e0, y0, y1, y2⟩ := at_T27 hr0 (i : Int) (by omega) (by omega)
      cases e0
      rw [Int.toNat_natCast] at y0
      have Y0 : Aside0 (w.cell? (ad.add (i * 3)) = some (.int .i64 (sizeAt l0 i))) := ⟨y0⟩
      clear y0 y1 y2
      by_cases h6 : sizeAt l0 i = 6
      · rw [if_neg (fun hh => hh.2.2.2 h6)] at h
        injection h with h
        injection h with e1 e2
        subst e1 e2
        rw [h6] at Y0
        clear hk hSB hr0 hd hr hG hlen h6
        go_enter Tryd.func18, Tryd.ntmps18
        go_wp2_with (first
          | (go_at_call 12; refine hok.mono ?_; rintro e w1 ⟨rfl, hb⟩)
          | (go_at_call 31; refine (hin _).mono ?_; rintro e w2 ⟨rfl, hd2⟩; have hb2 := hb.trans (hd2.below.mono hb.size); have y0 := (hb2.cell (World.block_lt_of_cell? w _ Y0.out)).trans Y0.out)
          | go_in)
        go_ret2
        exact ⟨rfl, hb2⟩
      · rw [if_pos ⟨hk, hr.1, hr.2, h6⟩] at h
        injection h with h
        injection h with e1 e2
        have hs := sizeAt_good hG i hlt
        obtain ⟨q1, q2, q3, q4, q5, q6, q7⟩ := slot_range2 hG i hlt h6
        have SB := fun (W : World) (hb : Below w.heap.size w W) => (hSB.mv hb).at_ (sizeAt l0 i) (by omega) (by omega)
        have hlay := fun (W : World) (hb : Below w.heap.size w W) => impl_layout.calls (some ad) c0 l0 _ _ _ _ W (hSB.mv hb) (Kd.C_below hr0 hb) hc0 (show impl_layout.f l0 = some _ from by unfold impl_layout.f; rw [if_pos hG])
        have hn : ((layS l0).1.map S34.mk).length = l0.length := by unfold layS; rw [List.length_map, layP_length, List.length_map]
        have hsl : (rd_T34 ((layS l0).1.map S34.mk) (i : Int)).f0 = slotAt l0 i := rfl
        have SB2 : ∀ (W : World), Below w.heap.size w W → W.cell? ⟨0, (sizeAt l0 i).toNat, none⟩ = some (.int .i64 (bitsOf (sizeAt l0 i))) := SB
        have HW1 := Aside0.mk hw1
        clear SB hSB hr0 hd hr hG hlen hw1 hk q1
        generalize (layS l0).2.words = W1 at *
        generalize (layS l0).2.ptrs = W2 at *
        generalize (layS l0).2.tag = W3 at *
        generalize (layS l0).1.map S34.mk = xs at *
        generalize slotAt l0 i = z at *
        generalize bitsOf (sizeAt l0 i) = b at *
        generalize sizeAt l0 i = sz at *
        have hm : wrap64 (z * b) = z * b := w64 (by omega) (by omega)
        have ha : wrap64 (z * b + b) = z * b + b := by clear hm; exact w64 (by omega) (by omega)
        have h6' : (sz == 6) = false := beq_eq_false_iff_ne.mpr h6
        have e1' := Aside0.mk e1
        have e2' := Aside0.mk e2
        have HSL := Aside0.mk hsl
        have HN := Aside0.mk hn
        have HLT := Aside0.mk hlt
        have hw1 := HW1.out
        have hx : (i : Int) < (l0.length : Int) := by clear hm ha hw1; omega
        have hcs : (i : Int) < (xs.length : Int) := by clear hm ha hw1; omega
        have ha2 : wrap64 (wrap64 (z * b) + b) = z * b + b := by rw [hm, ha]
        clear e1 e2 h6 hsl hn
        go_enter Tryd.func18, Tryd.ntmps18
        go_wp2_with (first
          | (go_at_call 12; refine hok.mono ?_; rintro e w1 ⟨rfl, hb⟩)
          | (go_at_call 31; refine (hin _).mono ?_; rintro e w2 ⟨rfl, hd2⟩; have hb2 := hb.trans (hd2.below.mono hb.size); have y0 := (hb2.cell (World.block_lt_of_cell? w _ Y0.out)).trans Y0.out; have y9 := SB2 _ hb2)
          | (go_at_call 36; refine (hlay _ hb2).mono ?_; rintro e w3 ⟨v2, rfl, hR, hb3⟩; obtain ⟨a2, c2, rfl⟩ := Kd.R_slice1 hR (by rw [HN.out]; exact Nat.lt_of_le_of_lt (Nat.zero_le _) HLT.out); have hC := (Kd.R_reads' hR).2.2; obtain ⟨ad2, e3, x0⟩ := at_T34 hC (i : Int) (by omega) (by rw [HN.out]; have := HLT.out; omega); cases e3; rw [HSL.out, Int.toNat_natCast] at x0; clear hR hC)
          | go_in)
        go_ret2
        rw [← e2'.out, ← e1'.out]
        exact ⟨rfl, hb2.trans (hb3.mono hb2.size)⟩
    · have hd : decide (0 ≤ a1 ∧ a1 ≤ (l0.length : Int) - 1) = false := decide_eq_false hr
      rw [if_neg (fun hh => hr ⟨hh.2.1, hh.2.2.1⟩)] at h
      rw [hd] at hin
      injection h with h
      injection h with e1 e2
      subst e1 e2
      clear hk hSB hr0 hd hr hG hlen
      go_enter Tryd.func18, Tryd.ntmps18
      go_wp2_with (first
        | (go_at_call 12; refine hok.mono ?_; rintro e w1 ⟨rfl, hb⟩)
        | (go_at_call 31; refine (hin _).mono ?_; rintro e w2 ⟨rfl, hd2⟩)
        | go_in)
      go_ret2
      exact ⟨rfl, hb.trans (hd2.below.mono hb.size)⟩
  · have hk' : okF l0 = false := by simpa using hk
    rw [if_neg (fun hh => hk hh.1)] at h
    rw [hk'] at hok
    injection h with h
    injection h with e1 e2
    subst e1 e2
    clear hk hk' hSB hr0
    go_enter Tryd.func18, Tryd.ntmps18
    go_wp2_with (first
      | (go_at_call 12; refine hok.mono ?_; rintro e w1 ⟨rfl, hb⟩)
      | go_in)
    go_ret2
    exact ⟨rfl, hb⟩
end Go.Proofs.YtjjcepnadjociaaDoor
