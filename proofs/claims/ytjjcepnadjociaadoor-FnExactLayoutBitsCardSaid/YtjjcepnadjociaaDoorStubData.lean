/- The reference's room for data, walked. -/
import Derived.Test.YtjjcepnadjociaaDoorStubHole
import Derived.Deep.CutRange
import Derived.Deep.DeepCutAuto
namespace Go.Proofs.YtjjcepnadjociaaDoor
set_option linter.unusedVariables false
set_option linter.unusedSimpArgs false
open Go.RowKit Go.Proofs.YtjjcepnadjociaaDoor.Lem Go.Proofs.YtjjcepnadjociaaDoorW.PrintWords Go.Proofs.YtjjcepnadjociaaDoorW.PrintLast Go.Proofs.YtjjcepnadjociaaDoorW.PrintMore
theorem d64 (w : Int) (u : Nat) (hu : u ≤ 6) : (2 : Int) ^ u ∣ 64 * w := Int.dvd_trans (p2dvd (a := u) (b := 6) hu) ⟨w, rfl⟩
section
variable {w0 w w1 : World} {lb : Nat} {words ptrs tag choices pointer : Int} {pv sv : Value} {h : Holes}
theorem Lay.set_ (H : Lay w0 w lb words ptrs tag choices pointer pv sv h) (j : Nat) (x : Value) {words' ptrs' tag' choices' pointer' : Int} {pv' sv' : Value}
    (he : (#[.int .i64 words, .int .i64 ptrs, .int .i64 (hcell h 0), .int .i64 (hcell h 1), .int .i64 (hcell h 2), .int .i64 (hcell h 3), .int .i64 (hcell h 4), .int .i64 (hcell h 5), .int .i64 tag, .int .i64 choices, pv, sv, .int .i64 pointer] : Array Value).setIfInBounds j x = #[.int .i64 words', .int .i64 ptrs', .int .i64 (hcell h 0), .int .i64 (hcell h 1), .int .i64 (hcell h 2), .int .i64 (hcell h 3), .int .i64 (hcell h 4), .int .i64 (hcell h 5), .int .i64 tag', .int .i64 choices', pv', sv', .int .i64 pointer']) :
    Lay w0 (w.setCell ⟨lb, j, none⟩ x) lb words' ptrs' tag' choices' pointer' pv' sv' h :=
  ⟨by rw [← he]; exact blk_set H.row j x, H.old, below_set H.below H.old⟩
theorem Lay.at_ (H : Lay w0 w lb words ptrs tag choices pointer pv sv h) (j : Nat) {v : Value} (hv : (#[.int .i64 words, .int .i64 ptrs, .int .i64 (hcell h 0), .int .i64 (hcell h 1), .int .i64 (hcell h 2), .int .i64 (hcell h 3), .int .i64 (hcell h 4), .int .i64 (hcell h 5), .int .i64 tag, .int .i64 choices, pv, sv, .int .i64 pointer] : Array Value)[j]? = some v) :
    w.cell? ⟨lb, j, none⟩ = some v ∧ w.frozen? ⟨lb, j, none⟩ = false := ⟨(blk_cell H.row j).trans hv, blk_frozen H.row j⟩
end
theorem at_div (w : Int) (s : Nat) (hs : s ≤ 6) : w * 2 ^ (6 - s) = 64 * w / 2 ^ s := by
  have e : (64 : Int) = 2 ^ (6 - s) * 2 ^ s := by
    rw [← Int.pow_add, show 6 - s + s = 6 by omega]; rfl
  have hp := p2pos s
  rw [e, Int.mul_right_comm, Int.mul_ediv_cancel _ (by omega), Int.mul_comm]
theorem fill_step (h : Holes) (o : Int) (u : Nat) (h5 : u ≤ 5) : fillUp h o u (6 - u) = fillUp (hset h u (some (o + 2 ^ u))) o (u + 1) (6 - (u + 1)) := by
  rw [show 6 - u = (6 - (u + 1)) + 1 by omega]
  simp only [fillUp]
theorem rest_step (w : Int) (u : Nat) (hu : u ≤ 5) : (64 * w / 2 ^ u + 1 + 1) / 2 = 64 * w / 2 ^ (u + 1) + 1 := by
  have h := (two_div (d64 w (u + 1) (by omega))).1
  rw [h]
  omega
set_option maxHeartbeats 4000000 in
set_option maxRecDepth 100000 in
theorem data_calls (w0 w : World) (lb : Nat) (words ptrs tag choices pointer : Int) (pv sv : Value) (s : Nat) (h : Holes) (hs : s ≤ 6) (hH : HI words h) (hw : 0 ≤ words ∧ words ≤ 100) (HL : Lay w0 w lb words ptrs tag choices pointer pv sv h) :
    Calls Tryd.prog 53 #[.pointer (some ⟨lb, 0, none⟩), .int .i64 (s : Int)] w fun e w' => e = .returned (.int .i64 ((findV words h s).1 / 2 ^ s)) ∧
      Lay w0 w' lb (findV words h s).2.1 ptrs tag choices pointer pv sv (findV words h s).2.2 ∧ Kept1 w w' lb := by
  have hJ : HJ h := fun u hu v hv => by
    obtain ⟨a, b, c⟩ := hH u hu v hv
    have := p2pos u
    exact ⟨a, by omega, c⟩
  have hcall := hole_calls w0 lb words ptrs tag choices pointer pv sv (6 - s) s h w (by omega) hJ HL
  have hV := findV_holeR words h s hs
  cases hr : holeR h s (6 - s) with
  | some r =>
    obtain ⟨o, h'⟩ := r
    obtain ⟨f1, f2, f3⟩ := holeR_fit hJ (6 - s) s (o, h') (by omega) hr
    rw [hr] at hcall hV
    have HV := Aside0.mk (show findV words h s = (o, words, h') from hV)
    have hy0 : 0 ≤ o / 2 ^ s := Int.ediv_nonneg f1 (by have := p2pos s; omega)
    have hcall2 : Calls Tryd.prog 58 #[.pointer (some ⟨lb, 0, none⟩), .int .i64 (s : Int)] w fun e w' => e = .returned (.int .i64 (o / 2 ^ s)) ∧ Lay w0 w' lb words ptrs tag choices pointer pv sv h' ∧ Kept1 w w' lb := hcall
    clear hcall f1 f2 f3 hr hV hJ hH hs HL hw
    rw [HV.out]
    have cy : decide (o / 2 ^ s ≥ 0) = true := decide_eq_true hy0
    generalize o / 2 ^ s = y at *
    go_enter Tryd.func53, Tryd.ntmps53
    go_wp2_with (go_at_call 58; refine hcall2.mono ?_; rintro e w1 ⟨rfl, hL1, hK1⟩)
    go_ret
    exact ⟨rfl, hL1, hK1⟩
  | none =>
    rw [hr] at hcall hV
    have hcall2 : Calls Tryd.prog 58 #[.pointer (some ⟨lb, 0, none⟩), .int .i64 (s : Int)] w fun e w' => e = .returned (.int .i64 (-1)) ∧ Lay w0 w' lb words ptrs tag choices pointer pv sv h ∧ Kept1 w w' lb := hcall
    have HV := Aside0.mk (show findV words h s = (64 * words, words + 1, fillUp h (64 * words) s (6 - s)) from hV)
    have HS := Aside0.mk hs
    have HW := Aside0.mk hw
    have hw1 : wrap64 (words + 1) = words + 1 := w64 (by omega) (by omega)
    have hs6 : wrap64 (6 - (s : Int)) = ((6 - s : Nat) : Int) := by rw [w64 (by omega) (by omega)]; omega
    clear hcall hr hV hJ hH hs HL hw
    rw [HV.out]
    go_enter Tryd.func53, Tryd.ntmps53
    go_wp2_with (go_at_call 58; refine hcall2.mono ?_; rintro e w1 ⟨rfl, hL1, hK1⟩; obtain ⟨c0, f0⟩ := hL1.at_ 0 rfl; have A1 := Aside0.mk hL1; have A2 := Aside0.mk hK1; clear hL1 hK1)
    have hq0 : 0 ≤ words * 2 ^ (6 - s) ∧ words * 2 ^ (6 - s) ≤ 6400 := by
      have hp := p2pos (6 - s)
      have hm := p2mono (a := 6 - s) (b := 6) (by omega)
      have hh := HW.out
      refine ⟨Int.mul_nonneg hh.1 (by omega), ?_⟩
      calc words * 2 ^ (6 - s) ≤ 100 * 2 ^ (6 - s) := Int.mul_le_mul_of_nonneg_right hh.2 (by omega)
        _ ≤ 100 * 2 ^ 6 := Int.mul_le_mul_of_nonneg_left hm (by decide)
        _ = 6400 := by decide
    have A0 := Aside0.mk (show wrap64 (words * 2 ^ (6 - s)) = 64 * words / 2 ^ s by rw [w64 (by omega) (by omega)]; exact at_div words s HS.out)
    have A5 := Aside0.mk (show wrap64 (wrap64 (words * 2 ^ (6 - s)) + 1) = 64 * words / 2 ^ s + 1 by rw [w64 (n := words * 2 ^ (6 - s)) (by omega) (by omega), w64 (by omega) (by omega), at_div words s HS.out])
    have A3 := Aside0.mk (A1.out.set_ 0 (.int .i64 (words + 1)) (words' := words + 1) rfl)
    have A4 := Aside0.mk (A2.out.set 0 (.int .i64 (words + 1)))
    clear hq0 A1 A2 c0 f0
    go_loopg [6, 7] 7 (fun gg s6 s7 wr => ∃ (u : Nat) (x : Int), s7 = .int .i64 (u : Int) ∧ s6 = .int .i64 x ∧ Aside0 (x = 64 * words / 2 ^ u + 1 ∧ s ≤ u ∧ u ≤ 6 ∧ 6 - u ≤ gg) ∧ Aside0 (∃ h2, Lay w0 wr lb (words + 1) ptrs tag choices pointer pv sv h2 ∧ fillUp h2 (64 * words) u (6 - u) = fillUp h (64 * words) s (6 - s)) ∧ Aside0 (Kept1 w wr lb))
    case atStart => exact ⟨s, _, rfl, rfl, ⟨A5.out, Nat.le_refl _, HS.out, by omega⟩, ⟨h, A3.out, rfl⟩, A4⟩
    case round =>
      clear A3 A4 A5
      obtain ⟨u, x, rfl, rfl, HX, HP, HK⟩ := hrel
      obtain ⟨hx, hsu, hu6, hgg⟩ := HX.out
      obtain ⟨h2, hL2, hF⟩ := HP.out
      by_cases h5 : u ≤ 5
      · have cu : (u : Int) < 6 := by omega
        obtain ⟨cc, ff⟩ := hL2.hole u h5
        have hwu : wrap64 ((u : Int) + 1) = (u : Int) + 1 := w64 (by omega) (by omega)
        have hxb : 0 ≤ x ∧ x ≤ 6401 := by
          have hd := Int.ediv_nonneg (show 0 ≤ 64 * words by have := HW.out; omega) (show (0 : Int) ≤ 2 ^ u by have := p2pos u; omega)
          have hd2 := Int.ediv_le_self (2 ^ u) (show 0 ≤ 64 * words by have := HW.out; omega)
          have := HW.out
          omega
        have A6 := Aside0.mk (show wrap64 ((wrap64 (x + 1)).tdiv 2) = 64 * words / 2 ^ (u + 1) + 1 by
          rw [w64 (n := x + 1) (by omega) (by omega), Int.tdiv_eq_ediv_of_nonneg (by omega), w64 (by omega) (by omega), hx]
          exact rest_step words u h5)
        have A7 := Aside0.mk (hL2.put u h5 (some (64 * words + 2 ^ u)) x (by
          show (64 * words + 2 ^ u) / 2 ^ u = x
          rw [hx, Int.add_ediv_of_dvd_left (d64 words u (by omega)), Int.ediv_self (by have := p2pos u; omega)]))
        have A8 := Aside0.mk (show fillUp (hset h2 u (some (64 * words + 2 ^ u))) (64 * words) (u + 1) (6 - (u + 1)) = fillUp h (64 * words) s (6 - s) by
          rw [← hF]; exact (fill_step h2 (64 * words) u h5).symm)
        have H5 := Aside0.mk h5
        have HG := Aside0.mk hgg
        have HSU := Aside0.mk hsu
        clear hx hsu hu6 hgg hL2 hF h5 HX HP hxb hw1 hs6
        go_wp2
        go_roundg (5 - u)
        case measure => have := HG.out; have := H5.out; omega
        case rel =>
          have h5 := H5.out
          have hsu := HSU.out
          exact ⟨u + 1, _, by first | rfl | (rw [hwu]; rfl), rfl, ⟨A6.out, by omega, by omega, by omega⟩, ⟨_, A7.out, A8.out⟩, ⟨HK.out.set _ _⟩⟩
      · have cu : ¬ (u : Int) < 6 := by omega
        have e6 : u = 6 := by omega
        subst e6
        have hF2 : fillUp h (64 * words) s (6 - s) = h2 := by rw [← hF, Nat.sub_self]; simp only [fillUp]
        have A9 := Aside0.mk hF2
        have A10 := Aside0.mk hL2
        clear hF2 hL2 hF hx hsu hu6 hgg HX HP h5
        go_wp2
        go_ret
        rw [A9.out]
        exact ⟨congrArg (fun x => Ending.returned (Value.int .i64 x)) A0.out, A10.out, HK.out⟩
end Go.Proofs.YtjjcepnadjociaaDoor
