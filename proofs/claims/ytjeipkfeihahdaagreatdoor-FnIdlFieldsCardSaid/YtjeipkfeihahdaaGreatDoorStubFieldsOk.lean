/- The fields' check of the first package: its closure, the library's search with it, and what the call comes to. -/
import Derived.Test.YtjeipkfeihahdaaGreatDoorStubSizesM
import Derived.Test.YtjeipkfeihahdaaGreatDoorPx0
import Derived.Shelf.Abstract
import Derived.Test.YtjeipkfeihahdaaGreatDoorPx17
import Derived.Test.YtjeipkfeihahdaaGreatDoorPx4
namespace Go.Proofs.YtjeipkfeihahdaaGreatDoor
set_option linter.unusedVariables false
set_option linter.unusedSimpArgs false
open Go.RowKit Go.Proofs.YtjeipkfeihahdaaGreatDoor.P Go.Proofs.YtjeipkfeihahdaaGreatDoorW.PrintWords Go.Proofs.YtjeipkfeihahdaaGreatDoorW.PrintLast Go.Proofs.YtjeipkfeihahdaaGreatDoorW.PrintMore
theorem wrap64_small (n : Int) (h0 : 0 ≤ n) (h1 : n < 1000000) : wrap64 (n + 1) = n + 1 := by unfold wrap64; omega
/-- A field that is not ok. -/
def badField (s : S38) : Bool := !(decide (1 ≤ s.f0 ∧ s.f0 ≤ 6)) || !(decide (Fits s.f2 s.f0))
theorem badField_f (s : S38) : impl_FieldsOk_1.f s.f0 s.f1 s.f2 = some (badField s) := by
 unfold impl_FieldsOk_1.f impl_in.f badField impl_fits.f
 by_cases h0 : s.f0 ≥ 1
 ·rw [if_pos h0]
  by_cases h1 : s.f0 ≤ 6
  ·simp [h1, show 1 ≤ s.f0 by omega, show 0 ≤ s.f0 by omega]
  ·simp [h1, show 1 ≤ s.f0 by omega]
 ·rw [if_neg h0]
  simp [show ¬ 1 ≤ s.f0 by omega]
/-- Where the first bad field stands. -/
def firstBad : List S38 → Nat → Int
 | [], _ => -1
 | s :: l, i => if badField s = true then (i : Int) else firstBad l (i + 1)
theorem firstBad_neg (l : List S38) : ∀ i, (decide (0 ≤ firstBad l i)) = l.any badField := by
 induction l with
 | nil => intro i; simp [firstBad]
 | cons s l ih =>
  intro i
  unfold firstBad
  by_cases h : badField s = true
  ·simp [h]
  ·rw [if_neg h, ih]; simp [h]
set_option maxHeartbeats 2000000 in
set_option maxRecDepth 100000 in
theorem indexFunc_calls (A0 : Option Addr) (c0 : Nat) (l0 : List S38) (w : World) (hSB : SBw w) (hr0 : Kd.C k38 w A0 l0.length l0) (hc0 : l0.length ≤ c0) (hlen : (l0.length : Int) ≤ 12) :
  Calls Tryz.prog 37 #[.slice A0 l0.length c0, .func (.func 19) #[] #[]] w fun e w' => e = .returned (.int .i64 (firstBad l0 0)) ∧ Below w.heap.size w w' := by
 have hu := Tryz.underlying38
 have HR0 := Aside0.mk hr0
 have HC0 := Aside0.mk hc0
 have HS := Aside0.mk hSB
 clear hr0 hc0 hSB
 generalize hR0 : firstBad l0 0 = R
 have hR := Aside0.mk hR0
 clear hR0
 have ec : ∀ args w, (callFunc 19 args).run Tryz.prog w = .ok (.enter 19 args) w := enters_of Tryz.func19 (by kernel_rfl) rfl
 go_enter Tryz.func37, Tryz.ntmps37
 go_wp2
 go_loopg [5, 8] l0.length (fun gg _ s8 wr => ∃ kk : Nat, s8 = .int .i64 kk ∧ Aside0 (kk ≤ l0.length ∧ l0.length - kk ≤ gg) ∧ Aside0 (Below w.heap.size w wr) ∧ Aside0 (firstBad (l0.drop kk) kk = R))
 case atStart => exact ⟨0, rfl, ⟨Nat.zero_le _, by omega⟩, ⟨Below.refl _ w⟩, hR⟩
 case round =>
  obtain ⟨kk, rfl, HK, HB, HF⟩ := hrel
  clear hR
  by_cases hlt : kk < l0.length
  ·have hltz : (kk : Int) < (l0.length : Int) := by omega
   obtain ⟨ad, e0, hx0, hx1, hx2⟩ := at_T38 HR0.out (kk : Int) (by omega) hltz
   cases e0
   rw [Int.toNat_natCast] at hx0 hx1 hx2
   replace hx0 := (HB.out.cell (World.block_lt_of_cell? w _ hx0)).trans hx0
   replace hx1 := (HB.out.cell (World.block_lt_of_cell? w _ hx1)).trans hx1
   replace hx2 := (HB.out.cell (World.block_lt_of_cell? w _ hx2)).trans hx2
   have hd : l0.drop kk = rd_T38 l0 (kk : Int) :: l0.drop (kk + 1) := by
    rw [List.drop_eq_getElem_cons hlt]
    unfold rd_T38
    rw [Int.toNat_natCast, List.getD_eq_getElem?_getD, List.getElem?_eq_getElem hlt, Option.getD_some]
   have hcall := impl_FieldsOk_1.calls (rd_T38 l0 (kk : Int)).f0 (rd_T38 l0 (kk : Int)).f1 (rd_T38 l0 (kk : Int)).f2 _ wr (HS.out.mv HB.out) (badField_f _)
   have HF1 := HF.out
   rw [hd] at HF1
   unfold firstBad at HF1
   clear hd HF
   generalize rd_T38 l0 (kk : Int) = s at hx0 hx1 hx2 hcall HF1
   cases hq : badField s with
   | true =>
    rw [hq] at hcall HF1
    rw [if_pos rfl] at HF1
    have HF2 := Aside0.mk HF1
    clear HF1
    go_wp2_with (go_at_fn 19; refine hcall.mono ?_; rintro e w' ⟨rfl, hb'⟩)
    go_ret
    exact ⟨by rw [← HF2.out]; rfl, below_step HB.out hb'⟩
   | false =>
    rw [hq] at hcall HF1
    rw [if_neg (by decide)] at HF1
    have HF2 := Aside0.mk HF1
    clear HF1
    go_wp2_with (go_at_fn 19; refine hcall.mono ?_; rintro e w' ⟨rfl, hb'⟩)
    go_roundg (l0.length - (kk + 1))
    case measure => have := HK.out; omega
    case rel => exact ⟨kk + 1, by have q_ := wrap64_small (kk : Int) (by omega) (by omega); first | go_num | rw [q_], ⟨by omega, by omega⟩, ⟨below_step HB.out hb'⟩, ⟨HF2.out⟩⟩
  ·have hltz : ¬ (kk : Int) < (l0.length : Int) := by omega
   have HF1 := HF.out
   rw [List.drop_eq_nil_of_le (by omega)] at HF1
   unfold firstBad at HF1
   have HF2 := Aside0.mk HF1
   clear HF1 HF
   go_wp2
   go_ret
   exact ⟨by rw [← HF2.out]; rfl, HB.out⟩
set_option maxHeartbeats 2000000 in
theorem containsFunc_calls (A0 : Option Addr) (c0 : Nat) (l0 : List S38) (w : World) (hSB : SBw w) (hr0 : Kd.C k38 w A0 l0.length l0) (hc0 : l0.length ≤ c0) (hlen : (l0.length : Int) ≤ 12) :
  Calls Tryz.prog 22 #[.slice A0 l0.length c0, .func (.func 19) #[] #[]] w fun e w' => e = .returned (.bool (l0.any badField)) ∧ Below w.heap.size w w' := by
 have hcall := indexFunc_calls A0 c0 l0 w hSB hr0 hc0 hlen
 rw [← firstBad_neg l0 0]
 generalize firstBad l0 0 = r at hcall ⊢
 clear hSB hr0
 have ei : ∀ args w, (callFunc 37 args).run Tryz.prog w = .ok (.enter 37 args) w := enters_of Tryz.func37 (by kernel_rfl) rfl
 go_enter Tryz.func22, Tryz.ntmps22
 go_wp2_with (go_at_fn 37; refine hcall.mono ?_; rintro e w' ⟨rfl, hb'⟩)
 go_ret
 exact ⟨rfl, hb'⟩
def impl_FieldsOk.f (l : List S38) : Option Bool := some (decide ((l.length : Int) ≤ 12) && !(l.any badField))
set_option maxHeartbeats 2000000 in
theorem impl_FieldsOk.calls (A0 : Option Addr) (c0 : Nat) (l0 : List S38) (r : Bool) (w : World) (hSB : SBw w) (hr0 : Kd.C k38 w A0 l0.length l0) (hc0 : l0.length ≤ c0) (h : impl_FieldsOk.f l0 = some r) :
  Calls Tryz.prog 9 #[.slice A0 l0.length c0] w fun e w' => e = .returned (.bool r) ∧ Below w.heap.size w w' := by
 have hr := Option.some.inj h
 clear h
 have ei : ∀ args w, (callFunc 22 args).run Tryz.prog w = .ok (.enter 22 args) w := enters_of Tryz.func22 (by kernel_rfl) rfl
 by_cases hl : (l0.length : Int) ≤ 12
 ·have hcall := containsFunc_calls A0 c0 l0 w hSB hr0 hc0 hl
  clear hSB hr0
  have e : (!(l0.any badField)) = r := by rw [← hr]; simp [hl]
  have E := Aside0.mk e
  clear e hr
  generalize l0.any badField = b at hcall E
  go_enter Tryz.func9, Tryz.ntmps9
  go_wp2_with (go_at_fn 22; refine hcall.mono ?_; rintro e w' ⟨rfl, hb'⟩)
  go_ret
  exact ⟨ret_bool E.out, hb'⟩
 ·have e : false = r := by rw [← hr]; simp [hl]
  have E := Aside0.mk e
  clear e hr
  go_enter Tryz.func9, Tryz.ntmps9
  go_wp2
  go_ret
  exact ⟨ret_bool E.out, Below.refl _ _⟩
end Go.Proofs.YtjeipkfeihahdaaGreatDoor
