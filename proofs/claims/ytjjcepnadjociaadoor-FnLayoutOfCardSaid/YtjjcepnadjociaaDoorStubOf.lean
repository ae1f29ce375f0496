/- No two fields stand in one place, but choices: the law, walked. -/
import Derived.Test.YtjjcepnadjociaaDoorLemLayoutAll
import Derived.Test.YtjjcepnadjociaaDoorPx10
import Derived.Test.YtjjcepnadjociaaDoorPx19
import Derived.Test.YtjjcepnadjociaaDoorPx20
import Derived.Test.YtjjcepnadjociaaDoorPx9
import Derived.Deep.CutRange
import Derived.Deep.DeepCutAuto
namespace Go.Proofs.YtjjcepnadjociaaDoor
set_option linter.unusedVariables false
set_option linter.unusedSimpArgs false
open Go.RowKit Go.Proofs.YtjjcepnadjociaaDoor.Lem Go.Proofs.YtjjcepnadjociaaDoor.P Go.Proofs.YtjjcepnadjociaaDoorW.PrintWords Go.Proofs.YtjjcepnadjociaaDoorW.PrintLast Go.Proofs.YtjjcepnadjociaaDoorW.PrintMore
theorem bits_some (t : List S27) (a : Int) : ∃ r, impl_LayoutBits.f t a = some r := by
  unfold impl_LayoutBits.f
  split <;> exact ⟨_, rfl⟩
/-- Whether a field is a choice. -/
def chAt (l : List S27) (a : Int) : Bool := (rd_T27 l a).f1
theorem bits_data {t : List S27} (hok : okF t = true) (i : Nat) (h : i < t.length) (h6 : sizeAt t i ≠ 6) : impl_LayoutBits.f t (i : Int) = some (slotAt t i * bitsOf (sizeAt t i), slotAt t i * bitsOf (sizeAt t i) + bitsOf (sizeAt t i)) := by
  unfold impl_LayoutBits.f
  rw [if_pos ⟨hok, by omega, by omega, h6⟩]
theorem bits_point {t : List S27} (i : Nat) (h6 : sizeAt t i = 6) : impl_LayoutBits.f t (i : Int) = some (0, 0) := by
  unfold impl_LayoutBits.f
  rw [if_neg (fun h => h.2.2.2 h6)]
theorem point_range (t : List S27) (i : Nat) (h : i < t.length) (h6 : sizeAt t i = 6) : 0 ≤ slotAt t i ∧ slotAt t i < (layS t).2.ptrs := by
  obtain ⟨B, F⟩ := laid_finv t
  have g := laidF_get t i h
  cases hc : (rd_T27 t (i : Int)).f1 with
  | false =>
    rw [hc] at g
    have := F.ptr i _ g h6 rfl
    exact ⟨this.1, this.2.1⟩
  | true =>
    rw [hc] at g
    obtain ⟨a, b⟩ := F.ptrc i _ g h6 rfl
    have a' : slotAt t i = (layS t).2.pointer := a
    have := F.point
    omega
/-- A field of data: the block it stands in, and that block's owner. -/
theorem data_in (t : List S27) {B : List ((Int × Nat) × Nat)} (F : FInv (layS t).2 B (laidF t)) (i : Nat) (h : i < t.length) (h6 : sizeAt t i ≠ 6) : ∃ r o, (r, o) ∈ B ∧ r.1 ≤ slotAt t i * 2 ^ scl (sizeAt t i) ∧ slotAt t i * 2 ^ scl (sizeAt t i) + 2 ^ scl (sizeAt t i) ≤ r.1 + 2 ^ r.2 ∧ o ≠ 1 ∧ (chAt t i = false → o = i + 2) ∧ (chAt t i = true → o = 0) := by
  have g := laidF_get t i h
  cases hc : (rd_T27 t (i : Int)).f1 with
  | false =>
    rw [hc] at g
    exact ⟨_, _, F.field i _ g h6 rfl, Int.le_refl _, Int.le_refl _, by omega, fun _ => rfl, (fun h => by unfold chAt at h; rw [hc] at h; cases h)⟩
  | true =>
    rw [hc] at g
    obtain ⟨r, a, b, c⟩ := F.choice i _ g h6 rfl
    have b' : slotAt t i * 2 ^ scl (sizeAt t i) = r.1 := b
    have m : (2 : Int) ^ scl (sizeAt t i) ≤ 2 ^ r.2 := p2mono c
    exact ⟨r, 0, a, by omega, by omega, by omega, (fun h => by unfold chAt at h; rw [hc] at h; cases h), fun _ => rfl⟩
theorem data_pair {t : List S27} (hok : okF t = true) (i k : Nat) (hi : i < t.length) (hk : k < t.length) (hik : i ≠ k) (h6 : sizeAt t i ≠ 6) (h6' : sizeAt t k ≠ 6) (hb : (chAt t i && chAt t k) = false) :
    slotAt t k * bitsOf (sizeAt t k) + bitsOf (sizeAt t k) ≤ slotAt t i * bitsOf (sizeAt t i) ∨ slotAt t i * bitsOf (sizeAt t i) + bitsOf (sizeAt t i) ≤ slotAt t k * bitsOf (sizeAt t k) := by
  obtain ⟨B, F⟩ := laid_finv t
  have hG := okF_good hok
  rw [(slot_range2 hG i hi h6).1, (slot_range2 hG k hk h6').1]
  obtain ⟨r, o, a, b, c, _, d1, d2⟩ := data_in t F i hi h6
  obtain ⟨r', o', a', b', c', _, d1', d2'⟩ := data_in t F k hk h6'
  rcases F.led.disj _ a _ a' with h | h
  · injection h with _ h
    exfalso
    cases hci : chAt t i <;> cases hck : chAt t k
    · have := d1 hci; have := d1' hck; omega
    · have := d1 hci; have := d2' hck; omega
    · have := d2 hci; have := d1' hck; omega
    · rw [hci, hck] at hb; cases hb
  · have h' : r.1 + 2 ^ r.2 ≤ r'.1 ∨ r'.1 + 2 ^ r'.2 ≤ r.1 := h
    omega
theorem tag_pair {t : List S27} (hok : okF t = true) (i : Nat) (hi : i < t.length) (h6 : sizeAt t i ≠ 6) (hg : 0 ≤ (layS t).2.tag) :
    16 * (layS t).2.tag + 16 ≤ slotAt t i * bitsOf (sizeAt t i) ∨ slotAt t i * bitsOf (sizeAt t i) + bitsOf (sizeAt t i) ≤ 16 * (layS t).2.tag := by
  obtain ⟨B, F⟩ := laid_finv t
  have hG := okF_good hok
  rw [(slot_range2 hG i hi h6).1]
  obtain ⟨r, o, a, b, c, d, _, _⟩ := data_in t F i hi h6
  rcases F.led.disj _ a _ (F.tag hg) with h | h
  · injection h with _ h
    exact absurd h d
  · have h' : r.1 + 2 ^ r.2 ≤ 16 * (layS t).2.tag ∨ 16 * (layS t).2.tag + 2 ^ 4 ≤ r.1 := h
    have e : (2 : Int) ^ 4 = 16 := by decide
    omega
theorem tag_in (t : List S27) (hg : 0 ≤ (layS t).2.tag) : 16 * (layS t).2.tag + 16 ≤ 64 * (layS t).2.words := by
  obtain ⟨B, F⟩ := laid_finv t
  have h : 0 ≤ 16 * (layS t).2.tag ∧ 16 * (layS t).2.tag + 2 ^ 4 ≤ 64 * (layS t).2.words := F.led.blk _ (F.tag hg)
  have e : (2 : Int) ^ 4 = 16 := by decide
  omega
theorem point_pair {t : List S27} (i k : Nat) (hi : i < t.length) (hk : k < t.length) (hik : i ≠ k) (h6 : sizeAt t i = 6) (h6' : sizeAt t k = 6) (hb : (chAt t i && chAt t k) = false) : slotAt t i ≠ slotAt t k := by
  obtain ⟨B, F⟩ := laid_finv t
  have g := laidF_get t i hi
  have g' := laidF_get t k hk
  cases hc : (rd_T27 t (i : Int)).f1 <;> cases hc' : (rd_T27 t (k : Int)).f1 <;> rw [hc] at g <;> rw [hc'] at g'
  · exact F.ptrD i k _ _ g g' hik h6 h6' rfl rfl
  · have a := (F.ptr i _ g h6 rfl).2.2
    have b := (F.ptrc k _ g' h6' rfl).1
    intro e
    exact a (e.trans b)
  · have a := (F.ptr k _ g' h6' rfl).2.2
    have b := (F.ptrc i _ g h6 rfl).1
    intro e
    exact a (e.symm.trans b)
  · unfold chAt at hb
    rw [hc, hc'] at hb
    cases hb
theorem words_bound {t : List S27} (hok : okF t = true) : 0 ≤ (layS t).2.words ∧ (layS t).2.words ≤ 24 := by
  have hi := layS_inv t
  have hl := (okF_good hok).1
  have := hi.words
  omega
theorem tag_bound {t : List S27} (hok : okF t = true) : -1 ≤ (layS t).2.tag ∧ (layS t).2.tag ≤ 1000 := by
  obtain ⟨B, F⟩ := laid_finv t
  have hw := words_bound hok
  rcases Int.lt_or_le (layS t).2.choices 2 with h | h
  · rw [F.tagn.1 h]; decide
  · have := tag_in t (F.tagn.2 h)
    have := F.tagn.2 h
    omega
set_option maxHeartbeats 40000000 in
set_option maxRecDepth 100000 in
theorem of_calls (k : Nat) (A0 : Option Addr) (c0 : Nat) (l0 : List Int) (t : List S27) (w : World) (hSB : SBw w) (hr0 : Kd.C (Kd.int .u8) w A0 l0.length l0) (hc0 : l0.length ≤ c0) (hd : spec_DrawLayoutOf.f k l0 = some t) (ht : t.length ≤ 13) (hk : 50 ≤ k) (hl0 : l0.length ≤ 1048576) (hok : okF t = true) :
    Calls Tryd.prog 9 #[.slice A0 l0.length c0] w fun e w' => e = .returned (.bool true) ∧ Below w.heap.size w w' := by
  have hdraw := spec_DrawLayoutOf.calls k A0 c0 l0 t w hr0 hc0 hd
  have hs0 := Aside0.mk hSB
  have hz := layout_f hok
  have himpl := implOf_ok hok
  have hsok := specOk_f t (by omega) k (by omega)
  have hspec := (specOf_f t (by omega) k (by omega)).trans himpl
  have hqn := qn_f (layS t).2.words (layS t).2.ptrs (slotsOf t) (layS t).2.tag (by rw [slotsOf_length]; omega) k (by rw [slotsOf_length]; omega)
  have hu30 := Tryd.underlying30
  have b0 : decide ((1048576 : Int) < (l0.length : Int)) = false := decide_eq_false (by omega)
  rw [hok] at hsok
  have HSO := Aside0.mk hsok
  have hiok : impl_FieldsOk.f t = some true := by rw [okF_f, hok]
  have HIO := Aside0.mk hiok
  clear hsok hiok
  have HT := Aside0.mk ht
  have H0 := Aside0.mk hl0
  have HI := Aside0.mk himpl
  have HS := Aside0.mk hspec
  have HQ := Aside0.mk hqn
  clear hSB hr0 hc0 hd ht hk hl0 hz himpl hspec hqn
  have HOK := Aside0.mk hok
  clear hok
  obtain ⟨a, ha⟩ : ∃ a, a = (layS t).2.words := ⟨_, rfl⟩
  obtain ⟨b, hb⟩ : ∃ b, b = (layS t).2.ptrs := ⟨_, rfl⟩
  obtain ⟨g, hg⟩ : ∃ g, g = (layS t).2.tag := ⟨_, rfl⟩
  obtain ⟨xs, hxs⟩ : ∃ xs, xs = slotsOf t := ⟨_, rfl⟩
  rw [← ha, ← hb, ← hg, ← hxs] at HI HS HQ
  have HA := Aside0.mk ha
  have HB := Aside0.mk hb
  have HG := Aside0.mk hg
  have HX := Aside0.mk hxs
  clear ha hb hg hxs
  go_enter Tryd.func9, Tryd.ntmps9
  go_upto_region 5 with (first
    | (go_at_call 20; refine hdraw.mono ?_; rintro e w1 ⟨v, rfl, hR1, hB1⟩; obtain ⟨A2, c2, rfl⟩ := Kd.R_slice hR1; have hC1 := (Kd.R_reads' hR1).2; have HB1 := Aside0.mk hB1; have HC1 := Aside0.mk hC1; clear hR1 hB1 hC1)
    | (go_at_call 14; refine (impl_LayoutOf.calls A2 c2 t _ _ _ _ _ w1 (hs0.out.mv HB1.out) HC1.out.2 HC1.out.1 HI.out).mono ?_; rintro e w2 ⟨v, rfl, hR2, hB2⟩; obtain ⟨A3, c3, rfl⟩ := Kd.R_slice hR2; have HR2 := Aside0.mk (Kd.R_reads' hR2).2; have HB2 := Aside0.mk hB2; clear hR2 hB2)
    | go_in)
  obtain ⟨W3, hW3⟩ : ∃ W3, W3 = w2.alloc (.cells #[.int .i64 a, .int .i64 b, .slice A3 xs.length c3, .int .i64 g] 30) := ⟨_, rfl⟩
  have HW3 := Aside0.mk hW3
  have HB3 := Aside0.mk (show Below w.heap.size w W3 from by rw [hW3]; exact below_alloc (HB1.out.trans (HB2.out.mono HB1.out.size)) _)
  have HB31 := Aside0.mk (show Below w1.heap.size w1 W3 from by rw [hW3]; exact below_alloc HB2.out _)
  have HR3 := Aside0.mk (show xs.length ≤ c3 ∧ Kd.C k34 W3 A3 xs.length xs from by rw [hW3]; exact ⟨HR2.out.1, Kd.C_below HR2.out.2 (below_alloc (Below.refl _ _) _)⟩)
  have HBL := Aside0.mk (show W3.heap[w2.heap.size]? = some (.cells #[.int .i64 a, .int .i64 b, .slice A3 xs.length c3, .int .i64 g] 30 (0, 0)) from by rw [hW3]; simpa using heap_alloc_new w2 _)
  rw [← hW3]
  clear hW3
  have hcall := spec_LayoutOf.calls k A2 c2 t _ _ _ _ _ W3 (Kd.C_below HC1.out.2 HB31.out) HC1.out.1 HS.out
  go_upto_region 6 with (first
    | (go_at_call 21; refine hcall.mono ?_; rintro e w4 ⟨v, rfl, hR4, hB4⟩; obtain ⟨A4, c4, rfl⟩ := Kd.R_slice hR4; have HR4 := Aside0.mk (Kd.R_reads' hR4).2; have HB4 := Aside0.mk hB4; clear hR4 hB4 hcall)
    | go_in)
  obtain ⟨W5, hW5⟩ : ∃ W5, W5 = w4.alloc (.cells #[.int .i64 a, .int .i64 b, .slice A4 xs.length c4, .int .i64 g] 30) := ⟨_, rfl⟩
  have HB35 := Aside0.mk (show Below W3.heap.size W3 W5 from by rw [hW5]; exact below_alloc HB4.out _)
  have HR5 := Aside0.mk (show xs.length ≤ c4 ∧ Kd.C k34 W5 A4 xs.length xs from by rw [hW5]; exact ⟨HR4.out.1, Kd.C_below HR4.out.2 (below_alloc (Below.refl _ _) _)⟩)
  have bl5 : W5.heap[w4.heap.size]? = some (.cells #[.int .i64 a, .int .i64 b, .slice A4 xs.length c4, .int .i64 g] 30 (0, 0)) := by rw [hW5]; simpa using heap_alloc_new w4 _
  rw [← hW5]
  clear hW5
  have bl3 : W5.heap[w2.heap.size]? = some (.cells #[.int .i64 a, .int .i64 b, .slice A3 xs.length c3, .int .i64 g] 30 (0, 0)) := (HB35.out.block _ (by have := (Array.getElem?_eq_some_iff.mp HBL.out).1; exact this)).trans HBL.out
  have p0 : W5.cell? ⟨w2.heap.size, 0, none⟩ = some (.int .i64 a) := (blk_cell bl3 0).trans rfl
  have p1 : W5.cell? ⟨w2.heap.size, 1, none⟩ = some (.int .i64 b) := (blk_cell bl3 1).trans rfl
  have p2 : W5.cell? ⟨w2.heap.size, 2, none⟩ = some (.slice A3 xs.length c3) := (blk_cell bl3 2).trans rfl
  have p3 : W5.cell? ⟨w2.heap.size, 3, none⟩ = some (.int .i64 g) := (blk_cell bl3 3).trans rfl
  have q0 : W5.cell? ⟨w4.heap.size, 0, none⟩ = some (.int .i64 a) := (blk_cell bl5 0).trans rfl
  have q1 : W5.cell? ⟨w4.heap.size, 1, none⟩ = some (.int .i64 b) := (blk_cell bl5 1).trans rfl
  have q2 : W5.cell? ⟨w4.heap.size, 2, none⟩ = some (.slice A4 xs.length c4) := (blk_cell bl5 2).trans rfl
  have q3 : W5.cell? ⟨w4.heap.size, 3, none⟩ = some (.int .i64 g) := (blk_cell bl5 3).trans rfl
  have hcall := laws_qnLayout.calls k a b A3 c3 xs g a b A4 c4 xs g true W5 (Kd.C_below HR3.out.2 HB35.out) HR3.out.1 HR5.out.2 HR5.out.1 HQ.out
  have HBL5 := Aside0.mk bl3
  clear bl3 bl5
  have hw1 := HB1.out
  go_upto_region 8 with (first
    | (go_at_call 22; refine hcall.mono ?_; rintro e w6 ⟨rfl, hB6⟩; have HB6 := Aside0.mk hB6; have B16 := Aside0.mk (HB31.out.trans ((HB35.out.trans (HB6.out.mono HB35.out.size)).mono HB31.out.size)); clear hB6 hcall p0 p1 p2 p3 q0 q1 q2 q3)
    | (go_at_call 12; refine (impl_FieldsOk.calls A2 c2 t true w6 (hs0.out.mv (HB1.out.trans (B16.out.mono HB1.out.size))) (Kd.C_below HC1.out.2 B16.out) HC1.out.1 HIO.out).mono ?_; rintro e w7 ⟨rfl, hB7⟩; have B17 := Aside0.mk (B16.out.trans (hB7.mono B16.out.size)); have HB7 := Aside0.mk hB7; clear hB7)
    | (go_at_call 13; refine (spec_FieldsOk.calls k A2 c2 t true w7 (Kd.C_below HC1.out.2 B17.out) HC1.out.1 HSO.out).mono ?_; rintro e W8 ⟨rfl, hB8⟩; have B18 := Aside0.mk (B17.out.trans (hB8.mono B17.out.size)); have HB68 := Aside0.mk (HB7.out.trans (hB8.mono HB7.out.size)); clear hB8)
    | go_in)
  have B58 := Aside0.mk (HB6.out.trans (HB68.out.mono HB6.out.size))
  have HBL8 := Aside0.mk ((B58.out.block _ (Array.getElem?_eq_some_iff.mp HBL5.out).1).trans HBL5.out)
  have HR38 := Aside0.mk (Kd.C_below (Kd.C_below HR3.out.2 HB35.out) B58.out)
  have HC8 := Aside0.mk (Kd.C_below HC1.out.2 B18.out)
  have BW8 := Aside0.mk (HB1.out.trans (B18.out.mono HB1.out.size))
  have HS8 := Aside0.mk (hs0.out.mv BW8.out)
  clear HBL HBL5 HR3 HR5 HR2 HR4 HB31 HB35 HB3 HB4 HB2 B16 B17 B18 HB68 B58 hw1 HB6 HB7 HI HS HQ HSO HIO hs0
  have hl0 : ∀ W, Below W8.heap.size W8 W → W.cell? ⟨w2.heap.size, 0, none⟩ = some (.int .i64 a) := fun W hb => (hb.cell (World.block_lt_of_cell? W8 _ ((blk_cell HBL8.out 0).trans rfl))).trans ((blk_cell HBL8.out 0).trans rfl)
  have hl1 : ∀ W, Below W8.heap.size W8 W → W.cell? ⟨w2.heap.size, 1, none⟩ = some (.int .i64 b) := fun W hb => (hb.cell (World.block_lt_of_cell? W8 _ ((blk_cell HBL8.out 1).trans rfl))).trans ((blk_cell HBL8.out 1).trans rfl)
  have hl2 : ∀ W, Below W8.heap.size W8 W → W.cell? ⟨w2.heap.size, 2, none⟩ = some (.slice A3 xs.length c3) := fun W hb => (hb.cell (World.block_lt_of_cell? W8 _ ((blk_cell HBL8.out 2).trans rfl))).trans ((blk_cell HBL8.out 2).trans rfl)
  have hl3 : ∀ W, Below W8.heap.size W8 W → W.cell? ⟨w2.heap.size, 3, none⟩ = some (.int .i64 g) := fun W hb => (hb.cell (World.block_lt_of_cell? W8 _ ((blk_cell HBL8.out 3).trans rfl))).trans ((blk_cell HBL8.out 3).trans rfl)
  have HL0 := Aside0.mk hl0
  have HL1 := Aside0.mk hl1
  have HL2 := Aside0.mk hl2
  have HL3 := Aside0.mk hl3
  clear hl0 hl1 hl2 hl3
  have hlen : xs.length = t.length := by rw [HX.out, slotsOf_length]
  have HLEN := Aside0.mk hlen
  have hgr : -1 ≤ g ∧ g ≤ 1000 := by rw [HG.out]; exact tag_bound HOK.out
  have har : 0 ≤ a ∧ a ≤ 24 := by rw [HA.out]; exact words_bound HOK.out
  have HGR := Aside0.mk hgr
  have HAR := Aside0.mk har
  clear hlen hgr har
  go_wp2
  go_loopg [8] t.length (fun gg s8 wr => ∃ i : Nat, s8 = .int .i64 i ∧ Aside0 (i ≤ t.length ∧ t.length - i ≤ gg) ∧ Aside0 (Below W8.heap.size W8 wr))
  case atStart => exact ⟨0, rfl, ⟨Nat.zero_le _, by omega⟩, ⟨Below.refl _ _⟩⟩
  case round =>
    obtain ⟨i, rfl, HK, HBr⟩ := hrel
    by_cases hlt : i < t.length
    · have hltz : (i : Int) < (t.length : Int) := by omega
      have hltx : (i : Int) < (xs.length : Int) := by rw [HLEN.out]; omega
      obtain ⟨ad1, e1, x1⟩ := at_T34 HR38.out (i : Int) (by omega) (by omega)
      obtain ⟨ad2, e2, y0, y1, y2⟩ := at_T27 HC8.out (i : Int) (by omega) (by omega)
      subst e1 e2
      rw [Int.toNat_natCast] at x1 y0 y1
      have HX1 : Aside0 (W8.cell? (ad1.add i) = some (.int .i64 (slotAt t i))) := ⟨by rw [HX.out] at x1; exact x1⟩
      have HY0 : Aside0 (W8.cell? (ad2.add (i * 3)) = some (.int .i64 (sizeAt t i))) := ⟨y0⟩
      have HY1 : Aside0 (W8.cell? ⟨(ad2.add (i * 3)).block, (ad2.add (i * 3)).off + 1, none⟩ = some (.bool (chAt t i))) := ⟨y1⟩
      clear x1 y0 y1 y2
      have hw := w64 (n := (i : Int) + 1) (by have := HT.out; omega) (by have := HT.out; omega)
      have HLT := Aside0.mk hlt
      clear hlt
      by_cases h6 : sizeAt t i = 6
      · have hcall := fun (W : World) (hb : Below W8.heap.size W8 W) => impl_LayoutBits.calls (some ad2) c2 t (i : Int) 0 0 W (HS8.out.mv hb) (Kd.C_below HC8.out hb) HC1.out.1 (bits_point i h6)
        have hpr := point_range t i HLT.out h6
        have H6 := Aside0.mk h6
        rw [h6] at HY0
        rw [← HB.out] at hpr
        have t1 : decide (slotAt t i < 0) = false := decide_eq_false (by omega)
        have t2 : decide (b ≤ slotAt t i) = false := decide_eq_false (by omega)
        clear h6 hpr
        go_upto_region 12 with (first
          | (go_at_call 18; refine (hcall _ HBr.out).mono ?_; rintro e w9 ⟨rfl, hB9⟩; have HB9 := Aside0.mk (HBr.out.trans (hB9.mono HBr.out.size)); clear hB9 HBr hcall)
          | go_in)
        have d0 := (HB9.out.cell (World.block_lt_of_cell? W8 _ HY0.out)).trans HY0.out
        have d1 := (HB9.out.cell (World.block_lt_of_cell? W8 _ HX1.out)).trans HX1.out
        have d2 := HL1.out _ HB9.out
        have d3 := HL2.out _ HB9.out
        go_upto_region 15 with (first | (go_quiet (fail)) | go_in)
        have HB10 := Aside0.mk (pw_below_drewN HB9.out nq)
        clear d0 d1 d2 d3 t1 t2
        go_wp2
        go_loopg [12] i (fun gg s12 wi => ∃ j : Nat, s12 = .int .i64 j ∧ Aside0 (j ≤ i ∧ i - j ≤ gg) ∧ Aside0 (Below W8.heap.size W8 wi))
        case atStart => exact ⟨0, rfl, ⟨Nat.zero_le _, by omega⟩, HB10⟩
        case round =>
          obtain ⟨j, rfl, HKj, HBi⟩ := hrel
          by_cases hlj : j < i
          · have hljz : (j : Int) < (i : Int) := by omega
            have hjt : j < t.length := by have := HLT.out; omega
            have hjtz : (j : Int) < (t.length : Int) := by omega
            have hjx : (j : Int) < (xs.length : Int) := by rw [HLEN.out]; omega
            obtain ⟨ad3, e1, x1⟩ := at_T34 HR38.out (j : Int) (by omega) (by omega)
            obtain ⟨ad4, e2, y0, y1, y2⟩ := at_T27 HC8.out (j : Int) (by omega) (by omega)
            cases e1
            cases e2
            rw [Int.toNat_natCast] at x1 y0 y1
            have HXJ : Aside0 (W8.cell? (ad1.add j) = some (.int .i64 (slotAt t j))) := ⟨by rw [HX.out] at x1; exact x1⟩
            have HYJ : Aside0 (W8.cell? (ad2.add (j * 3)) = some (.int .i64 (sizeAt t j))) := ⟨y0⟩
            have HZJ : Aside0 (W8.cell? ⟨(ad2.add (j * 3)).block, (ad2.add (j * 3)).off + 1, none⟩ = some (.bool (chAt t j))) := ⟨y1⟩
            clear x1 y0 y1 y2
            have hwj := w64 (n := (j : Int) + 1) (by have := HT.out; omega) (by have := HT.out; omega)
            obtain ⟨⟨r1, r2⟩, hr⟩ := bits_some t (j : Int)
            have hcall := fun (W : World) (hb : Below W8.heap.size W8 W) => impl_LayoutBits.calls (some ad2) c2 t (j : Int) r1 r2 W (HS8.out.mv hb) (Kd.C_below HC8.out hb) HC1.out.1 hr
            have HPP := Aside0.mk (point_pair (t := t) i j HLT.out hjt (by omega) H6.out)
            clear hr hlj hjt
            go_upto_region 21 with (first
              | (go_at_call 18; refine (hcall _ HBi.out).mono ?_; rintro e w11 ⟨rfl, hB9⟩; have HB11 := Aside0.mk (HBi.out.trans (hB9.mono HBi.out.size)); clear hB9 HBi hcall)
              | go_in)
            have d0 := (HB11.out.cell (World.block_lt_of_cell? W8 _ HYJ.out)).trans HYJ.out
            have d1 := (HB11.out.cell (World.block_lt_of_cell? W8 _ HXJ.out)).trans HXJ.out
            have d2 := HL2.out _ HB11.out
            have d4 := (HB11.out.cell (World.block_lt_of_cell? W8 _ HX1.out)).trans HX1.out
            have d5 := (HB11.out.cell (World.block_lt_of_cell? W8 _ HY1.out)).trans HY1.out
            have d6 := (HB11.out.cell (World.block_lt_of_cell? W8 _ HZJ.out)).trans HZJ.out
            by_cases h6j : sizeAt t j = 6
            · as_aux_lemma =>
                have hpp := HPP.out h6j
                rw [h6j] at d0
                clear h6j
                cases hci : chAt t i <;> cases hcj : chAt t j <;> rw [hci] at d5 <;> rw [hcj] at d6
                · have hne : (slotAt t i == slotAt t j) = false := beq_eq_false_iff_ne.mpr (hpp (by rw [hci, hcj]; rfl))
                  clear hci hcj hpp
                  go_wp2
                  repeat (go_quiet (fail); try go_wp2)
                  go_roundg (i - (j + 1))
                  case measure => have := HKj.out; omega
                  case rel => exact ⟨j + 1, by first | rfl | (rw [hwj]; rfl), ⟨by omega, by omega⟩, ⟨by repeat (first | exact HB11.out | apply pw_below_drewN | apply below_drew1)⟩⟩
                · have hne : (slotAt t i == slotAt t j) = false := beq_eq_false_iff_ne.mpr (hpp (by rw [hci, hcj]; rfl))
                  clear hci hcj hpp
                  go_wp2
                  repeat (go_quiet (fail); try go_wp2)
                  go_roundg (i - (j + 1))
                  case measure => have := HKj.out; omega
                  case rel => exact ⟨j + 1, by first | rfl | (rw [hwj]; rfl), ⟨by omega, by omega⟩, ⟨by repeat (first | exact HB11.out | apply pw_below_drewN | apply below_drew1)⟩⟩
                · have hne : (slotAt t i == slotAt t j) = false := beq_eq_false_iff_ne.mpr (hpp (by rw [hci, hcj]; rfl))
                  clear hci hcj hpp
                  go_wp2
                  repeat (go_quiet (fail); try go_wp2)
                  go_roundg (i - (j + 1))
                  case measure => have := HKj.out; omega
                  case rel => exact ⟨j + 1, by first | rfl | (rw [hwj]; rfl), ⟨by omega, by omega⟩, ⟨by repeat (first | exact HB11.out | apply pw_below_drewN | apply below_drew1)⟩⟩
                · clear hci hcj
                  go_wp2
                  repeat (go_quiet (fail); try go_wp2)
                  go_roundg (i - (j + 1))
                  case measure => have := HKj.out; omega
                  case rel => exact ⟨j + 1, by first | rfl | (rw [hwj]; rfl), ⟨by omega, by omega⟩, ⟨by repeat (first | exact HB11.out | apply pw_below_drewN | apply below_drew1)⟩⟩
            · as_aux_lemma =>
                have hs : (sizeAt t j == 6) = false := beq_eq_false_iff_ne.mpr h6j
                clear h6j
                cases hci : chAt t i <;> cases hcj : chAt t j <;> rw [hci] at d5 <;> rw [hcj] at d6
                · clear hci hcj
                  go_wp2
                  repeat (go_quiet (fail); try go_wp2)
                  go_roundg (i - (j + 1))
                  case measure => have := HKj.out; omega
                  case rel => exact ⟨j + 1, by first | rfl | (rw [hwj]; rfl), ⟨by omega, by omega⟩, ⟨by repeat (first | exact HB11.out | apply pw_below_drewN | apply below_drew1)⟩⟩
                · clear hci hcj
                  go_wp2
                  repeat (go_quiet (fail); try go_wp2)
                  go_roundg (i - (j + 1))
                  case measure => have := HKj.out; omega
                  case rel => exact ⟨j + 1, by first | rfl | (rw [hwj]; rfl), ⟨by omega, by omega⟩, ⟨by repeat (first | exact HB11.out | apply pw_below_drewN | apply below_drew1)⟩⟩
                · clear hci hcj
                  go_wp2
                  repeat (go_quiet (fail); try go_wp2)
                  go_roundg (i - (j + 1))
                  case measure => have := HKj.out; omega
                  case rel => exact ⟨j + 1, by first | rfl | (rw [hwj]; rfl), ⟨by omega, by omega⟩, ⟨by repeat (first | exact HB11.out | apply pw_below_drewN | apply below_drew1)⟩⟩
                · clear hci hcj
                  go_wp2
                  repeat (go_quiet (fail); try go_wp2)
                  go_roundg (i - (j + 1))
                  case measure => have := HKj.out; omega
                  case rel => exact ⟨j + 1, by first | rfl | (rw [hwj]; rfl), ⟨by omega, by omega⟩, ⟨by repeat (first | exact HB11.out | apply pw_below_drewN | apply below_drew1)⟩⟩
          · have hljz : ¬ (j : Int) < (i : Int) := by omega
            clear hlj
            go_wp2
            go_roundg (t.length - (i + 1))
            case measure => have := HK.out; have := HLT.out; omega
            case rel => exact ⟨i + 1, by first | rfl | (rw [hw]; rfl), ⟨by have := HLT.out; omega, by omega⟩, HBi⟩
      · have hbr := slot_range2 (okF_good HOK.out) i HLT.out h6
        have hcall := fun (W : World) (hb : Below W8.heap.size W8 W) => impl_LayoutBits.calls (some ad2) c2 t (i : Int) _ _ W (HS8.out.mv hb) (Kd.C_below HC8.out hb) HC1.out.1 (bits_data HOK.out i HLT.out h6)
        have hin := (slot_range (okF_good HOK.out) i HLT.out h6).2.1
        rw [← hbr.1, ← HA.out] at hin
        have HTP := Aside0.mk (tag_pair HOK.out i HLT.out h6)
        rw [← HG.out] at HTP
        have HDP := Aside0.mk (fun j hj hij h6j hb => data_pair HOK.out i j HLT.out hj hij h6 h6j hb)
        have hdv : Int.tmod (slotAt t i * bitsOf (sizeAt t i)) (bitsOf (sizeAt t i)) = 0 := Int.tmod_eq_zero_of_dvd (Int.dvd_mul_left _ _)
        obtain ⟨q1, q2, q3, q4, q5, q6, q7⟩ := hbr
        have hs6 : (sizeAt t i == 6) = false := beq_eq_false_iff_ne.mpr h6
        clear h6 q1 q4 q5
        obtain ⟨fr, hfr⟩ : ∃ x, x = slotAt t i * bitsOf (sizeAt t i) := ⟨_, rfl⟩
        obtain ⟨bi, hbi⟩ : ∃ x, x = bitsOf (sizeAt t i) := ⟨_, rfl⟩
        rw [← hfr, ← hbi] at HTP hdv
        simp only [← hfr] at hcall HDP hin q6 q7
        simp only [← hbi] at hcall HDP hin q2 q3 q7
        obtain ⟨tt, hto⟩ : ∃ x, x = fr + bi := ⟨_, rfl⟩
        rw [← hto] at HTP hin q7
        simp only [← hto] at hcall HDP
        have hsub : wrap64 (tt - fr) = bi := by rw [w64 (by omega) (by omega)]; omega
        have h64 : wrap64 (64 * a) = 64 * a := by have := HAR.out; exact w64 (by omega) (by omega)
        have t1 : decide (fr < 0) = false := decide_eq_false (by omega)
        have t2 : decide (64 * a < tt) = false := decide_eq_false (by omega)
        have t3 : (bi == 0) = false := beq_eq_false_iff_ne.mpr (by omega)
        have t3' : ¬ bi = 0 := by omega
        have HFR := Aside0.mk hfr
        have HBI := Aside0.mk hbi
        have HTO := Aside0.mk hto
        have HQ6 := Aside0.mk q6
        have HQ7 := Aside0.mk q7
        have HQ23 := Aside0.mk (And.intro q2 q3)
        clear hfr hbi hto q6 q7 q2 q3 hin
        go_upto_region 12 with (first
          | (go_at_call 18; refine (hcall _ HBr.out).mono ?_; rintro e w9 ⟨rfl, hB9⟩; have HB9 := Aside0.mk (HBr.out.trans (hB9.mono HBr.out.size)); clear hB9 HBr hcall)
          | go_in)
        have d0 := (HB9.out.cell (World.block_lt_of_cell? W8 _ HY0.out)).trans HY0.out
        have d1 := HL0.out _ HB9.out
        go_upto_region 15 with (first | (go_quiet (fail)) | go_in)
        have HB10 := Aside0.mk (pw_below_drewN HB9.out nq)
        have d3 := HL3.out _ HB10.out
        clear d0 d1 t1 t2 t3 t3' hdv hsub h64
        generalize w9.drewN nq = W10 at *
        go_cut [149] (fun v149 wc => v149 = .bool false ∧ Aside0 (Below W8.heap.size W8 wc))
        case first =>
          have hg1 := HGR.out
          by_cases hg : 0 ≤ g
          · have e1 := decide_eq_true hg
            have htp := HTP.out hg
            have w1 : wrap64 (16 * g) = 16 * g := w64 (by omega) (by omega)
            have w2 : wrap64 (16 * g + 16) = 16 * g + 16 := w64 (by omega) (by omega)
            by_cases hc : fr < 16 * g + 16
            · have e2 := decide_eq_true hc
              have e3 : decide (16 * g < tt) = false := decide_eq_false (by omega)
              clear hg hc htp
              go_wp2
              repeat (go_quiet (fail); try go_wp2)
              go_meet
              case rel => exact ⟨rfl, ⟨by repeat (first | exact HB10.out | apply pw_below_drewN | apply below_drew1)⟩⟩
            · have e2 := decide_eq_false hc
              clear hg hc htp
              go_wp2
              repeat (go_quiet (fail); try go_wp2)
              go_meet
              case rel => exact ⟨rfl, ⟨by repeat (first | exact HB10.out | apply pw_below_drewN | apply below_drew1)⟩⟩
          · have e1 := decide_eq_false hg
            clear hg
            go_wp2
            repeat (go_quiet (fail); try go_wp2)
            go_meet
            case rel => exact ⟨rfl, ⟨by repeat (first | exact HB10.out | apply pw_below_drewN | apply below_drew1)⟩⟩
        case rest =>
          obtain ⟨rfl, HBc⟩ := hcut
          clear HB10 d3
          have HB10 := HBc
          clear HBc
          go_wp2
          go_loopg [12] i (fun gg s12 wi => ∃ j : Nat, s12 = .int .i64 j ∧ Aside0 (j ≤ i ∧ i - j ≤ gg) ∧ Aside0 (Below W8.heap.size W8 wi))
          case atStart => exact ⟨0, rfl, ⟨Nat.zero_le _, by omega⟩, HB10⟩
          case round =>
            obtain ⟨j, rfl, HKj, HBi⟩ := hrel
            by_cases hlj : j < i
            · have hljz : (j : Int) < (i : Int) := by omega
              have hjt : j < t.length := by have := HLT.out; omega
              have hjtz : (j : Int) < (t.length : Int) := by omega
              have hjx : (j : Int) < (xs.length : Int) := by rw [HLEN.out]; omega
              obtain ⟨ad3, e1, x1⟩ := at_T34 HR38.out (j : Int) (by omega) (by omega)
              obtain ⟨ad4, e2, y0, y1, y2⟩ := at_T27 HC8.out (j : Int) (by omega) (by omega)
              cases e1
              cases e2
              rw [Int.toNat_natCast] at x1 y0 y1
              have HXJ : Aside0 (W8.cell? (ad1.add j) = some (.int .i64 (slotAt t j))) := ⟨by rw [HX.out] at x1; exact x1⟩
              have HYJ : Aside0 (W8.cell? (ad2.add (j * 3)) = some (.int .i64 (sizeAt t j))) := ⟨y0⟩
              have HZJ : Aside0 (W8.cell? ⟨(ad2.add (j * 3)).block, (ad2.add (j * 3)).off + 1, none⟩ = some (.bool (chAt t j))) := ⟨y1⟩
              clear x1 y0 y1 y2
              have hwj := w64 (n := (j : Int) + 1) (by have := HT.out; omega) (by have := HT.out; omega)
              obtain ⟨⟨r1, r2⟩, hr⟩ := bits_some t (j : Int)
              have hcall := fun (W : World) (hb : Below W8.heap.size W8 W) => impl_LayoutBits.calls (some ad2) c2 t (j : Int) r1 r2 W (HS8.out.mv hb) (Kd.C_below HC8.out hb) HC1.out.1 hr
              have HDJ := Aside0.mk (fun (h6j : sizeAt t j ≠ 6) => (Option.some.inj (hr.symm.trans (bits_data HOK.out j hjt h6j)) : (r1, r2) = _))
              have HDP2 := Aside0.mk (fun (h6j : sizeAt t j ≠ 6) (hb : (chAt t i && chAt t j) = false) => HDP.out j hjt (by omega) h6j hb)
              clear hr hlj hjt
              go_upto_region 21 with (first
                | (go_at_call 18; refine (hcall _ HBi.out).mono ?_; rintro e w11 ⟨rfl, hB9⟩; have HB11 := Aside0.mk (HBi.out.trans (hB9.mono HBi.out.size)); clear hB9 HBi hcall)
                | go_in)
              have d0 := (HB11.out.cell (World.block_lt_of_cell? W8 _ HYJ.out)).trans HYJ.out
              have d1 := (HB11.out.cell (World.block_lt_of_cell? W8 _ HXJ.out)).trans HXJ.out
              have d2 := HL2.out _ HB11.out
              have d4 := (HB11.out.cell (World.block_lt_of_cell? W8 _ HX1.out)).trans HX1.out
              have d5 := (HB11.out.cell (World.block_lt_of_cell? W8 _ HY1.out)).trans HY1.out
              have d6 := (HB11.out.cell (World.block_lt_of_cell? W8 _ HZJ.out)).trans HZJ.out
              by_cases h6j : sizeAt t j = 6
              · as_aux_lemma =>
                  rw [h6j] at d0
                  clear h6j
                  cases hci : chAt t i <;> cases hcj : chAt t j <;> rw [hci] at d5 <;> rw [hcj] at d6
                  · clear hci hcj
                    go_wp2
                    repeat (go_quiet (fail); try go_wp2)
                    go_roundg (i - (j + 1))
                    case measure => have := HKj.out; omega
                    case rel => exact ⟨j + 1, by first | rfl | (rw [hwj]; rfl), ⟨by omega, by omega⟩, ⟨by repeat (first | exact HB11.out | apply pw_below_drewN | apply below_drew1)⟩⟩
                  · clear hci hcj
                    go_wp2
                    repeat (go_quiet (fail); try go_wp2)
                    go_roundg (i - (j + 1))
                    case measure => have := HKj.out; omega
                    case rel => exact ⟨j + 1, by first | rfl | (rw [hwj]; rfl), ⟨by omega, by omega⟩, ⟨by repeat (first | exact HB11.out | apply pw_below_drewN | apply below_drew1)⟩⟩
                  · clear hci hcj
                    go_wp2
                    repeat (go_quiet (fail); try go_wp2)
                    go_roundg (i - (j + 1))
                    case measure => have := HKj.out; omega
                    case rel => exact ⟨j + 1, by first | rfl | (rw [hwj]; rfl), ⟨by omega, by omega⟩, ⟨by repeat (first | exact HB11.out | apply pw_below_drewN | apply below_drew1)⟩⟩
                  · clear hci hcj
                    go_wp2
                    repeat (go_quiet (fail); try go_wp2)
                    go_roundg (i - (j + 1))
                    case measure => have := HKj.out; omega
                    case rel => exact ⟨j + 1, by first | rfl | (rw [hwj]; rfl), ⟨by omega, by omega⟩, ⟨by repeat (first | exact HB11.out | apply pw_below_drewN | apply below_drew1)⟩⟩
              · as_aux_lemma =>
                  have hs : (sizeAt t j != 6) = true := bne_iff_ne.mpr h6j
                  have hs2 : (sizeAt t j == 6) = false := beq_eq_false_iff_ne.mpr h6j
                  have hj := HDJ.out h6j
                  injection hj with hj1 hj2
                  cases hci : chAt t i <;> cases hcj : chAt t j <;> rw [hci] at d5 <;> rw [hcj] at d6
                  · have hdp := HDP2.out h6j (by rw [hci, hcj]; rfl)
                    rw [← hj2, ← hj1] at hdp
                    clear hci hcj h6j hj1 hj2
                    by_cases hc1 : fr < r2
                    · have e1 := decide_eq_true hc1
                      have e2 : decide (r1 < tt) = false := decide_eq_false (by omega)
                      clear hc1 hdp
                      go_wp2
                      repeat (go_quiet (fail); try go_wp2)
                      go_roundg (i - (j + 1))
                      case measure => have := HKj.out; omega
                      case rel => exact ⟨j + 1, by first | rfl | (rw [hwj]; rfl), ⟨by omega, by omega⟩, ⟨by repeat (first | exact HB11.out | apply pw_below_drewN | apply below_drew1)⟩⟩
                    · have e1 := decide_eq_false hc1
                      clear hc1 hdp
                      go_wp2
                      repeat (go_quiet (fail); try go_wp2)
                      go_roundg (i - (j + 1))
                      case measure => have := HKj.out; omega
                      case rel => exact ⟨j + 1, by first | rfl | (rw [hwj]; rfl), ⟨by omega, by omega⟩, ⟨by repeat (first | exact HB11.out | apply pw_below_drewN | apply below_drew1)⟩⟩
                  · have hdp := HDP2.out h6j (by rw [hci, hcj]; rfl)
                    rw [← hj2, ← hj1] at hdp
                    clear hci hcj h6j hj1 hj2
                    by_cases hc1 : fr < r2
                    · have e1 := decide_eq_true hc1
                      have e2 : decide (r1 < tt) = false := decide_eq_false (by omega)
                      clear hc1 hdp
                      go_wp2
                      repeat (go_quiet (fail); try go_wp2)
                      go_roundg (i - (j + 1))
                      case measure => have := HKj.out; omega
                      case rel => exact ⟨j + 1, by first | rfl | (rw [hwj]; rfl), ⟨by omega, by omega⟩, ⟨by repeat (first | exact HB11.out | apply pw_below_drewN | apply below_drew1)⟩⟩
                    · have e1 := decide_eq_false hc1
                      clear hc1 hdp
                      go_wp2
                      repeat (go_quiet (fail); try go_wp2)
                      go_roundg (i - (j + 1))
                      case measure => have := HKj.out; omega
                      case rel => exact ⟨j + 1, by first | rfl | (rw [hwj]; rfl), ⟨by omega, by omega⟩, ⟨by repeat (first | exact HB11.out | apply pw_below_drewN | apply below_drew1)⟩⟩
                  · have hdp := HDP2.out h6j (by rw [hci, hcj]; rfl)
                    rw [← hj2, ← hj1] at hdp
                    clear hci hcj h6j hj1 hj2
                    by_cases hc1 : fr < r2
                    · have e1 := decide_eq_true hc1
                      have e2 : decide (r1 < tt) = false := decide_eq_false (by omega)
                      clear hc1 hdp
                      go_wp2
                      repeat (go_quiet (fail); try go_wp2)
                      go_roundg (i - (j + 1))
                      case measure => have := HKj.out; omega
                      case rel => exact ⟨j + 1, by first | rfl | (rw [hwj]; rfl), ⟨by omega, by omega⟩, ⟨by repeat (first | exact HB11.out | apply pw_below_drewN | apply below_drew1)⟩⟩
                    · have e1 := decide_eq_false hc1
                      clear hc1 hdp
                      go_wp2
                      repeat (go_quiet (fail); try go_wp2)
                      go_roundg (i - (j + 1))
                      case measure => have := HKj.out; omega
                      case rel => exact ⟨j + 1, by first | rfl | (rw [hwj]; rfl), ⟨by omega, by omega⟩, ⟨by repeat (first | exact HB11.out | apply pw_below_drewN | apply below_drew1)⟩⟩
                  · clear hci hcj h6j hj1 hj2
                    go_wp2
                    repeat (go_quiet (fail); try go_wp2)
                    go_roundg (i - (j + 1))
                    case measure => have := HKj.out; omega
                    case rel => exact ⟨j + 1, by first | rfl | (rw [hwj]; rfl), ⟨by omega, by omega⟩, ⟨by repeat (first | exact HB11.out | apply pw_below_drewN | apply below_drew1)⟩⟩
            · have hljz : ¬ (j : Int) < (i : Int) := by omega
              clear hlj
              go_wp2
              go_roundg (t.length - (i + 1))
              case measure => have := HK.out; have := HLT.out; omega
              case rel => exact ⟨i + 1, by first | rfl | (rw [hw]; rfl), ⟨by have := HLT.out; omega, by omega⟩, HBi⟩
    · have hltz : ¬ (i : Int) < (t.length : Int) := by omega
      have d0 := HL0.out _ HBr.out
      have d2 := HL2.out _ HBr.out
      have d3 := HL3.out _ HBr.out
      have hl : (xs.length : Int) = (t.length : Int) := by rw [HLEN.out]
      have hl2 := beq_iff_eq.mpr hl
      have hg1 := HGR.out
      have ha1 := HAR.out
      have h64 : wrap64 (64 * a) = 64 * a := w64 (by omega) (by omega)
      clear hlt
      by_cases hg : g < 0
      · have e1 := decide_eq_true hg
        clear hg hl
        go_wp2
        repeat (go_quiet (fail); try go_wp2)
        go_ret
        exact ⟨by first | rfl | simp [*], BW8.out.trans (Below.mono (by repeat (first | exact HBr.out | apply pw_below_drewN | apply below_drew1)) BW8.out.size)⟩
      · have e1 := decide_eq_false hg
        have w1 : wrap64 (16 * g) = 16 * g := w64 (by omega) (by omega)
        have w2 : wrap64 (16 * g + 16) = 16 * g + 16 := w64 (by omega) (by omega)
        have htn := tag_in t (by rw [← HG.out]; omega)
        rw [← HG.out, ← HA.out] at htn
        have e2 := decide_eq_true htn
        clear hg hl htn
        go_wp2
        repeat (go_quiet (fail); try go_wp2)
        go_ret
        exact ⟨by first | rfl | simp [*], BW8.out.trans (Below.mono (by repeat (first | exact HBr.out | apply pw_below_drewN | apply below_drew1)) BW8.out.size)⟩
end Go.Proofs.YtjjcepnadjociaaDoor
