/- The reference's hole, data, choice and field, walked. -/
import Derived.Test.YtjjcepnadjociaaDoorLemLay
import Derived.Test.YtjjcepnadjociaaDoorStubFind
import Derived.Deep.CutRange
import Derived.Deep.DeepCutAuto
namespace Go.Proofs.YtjjcepnadjociaaDoor
set_option linter.unusedVariables false
set_option linter.unusedSimpArgs false
open Go.RowKit Go.Proofs.YtjjcepnadjociaaDoor.Lem Go.Proofs.YtjjcepnadjociaaDoorW.PrintWords Go.Proofs.YtjjcepnadjociaaDoorW.PrintLast Go.Proofs.YtjjcepnadjociaaDoorW.PrintMore
/-- The reference's plan in memory, its two rows told by their values. -/
structure Lay (w0 w : World) (lb : Nat) (words ptrs tag choices pointer : Int) (pv sv : Value) (h : Holes) : Prop where
  row : w.heap[lb]? = some (.cells #[.int .i64 words, .int .i64 ptrs, .int .i64 (hcell h 0), .int .i64 (hcell h 1), .int .i64 (hcell h 2), .int .i64 (hcell h 3), .int .i64 (hcell h 4), .int .i64 (hcell h 5), .int .i64 tag, .int .i64 choices, pv, sv, .int .i64 pointer] 80 (0, 0))
  old : w0.heap.size ≤ lb
  below : Below w0.heap.size w0 w
/-- All blocks but one stand as they stood. -/
structure Kept1 (w w' : World) (lb : Nat) : Prop where
  size : w'.heap.size = w.heap.size
  same : ∀ b, b ≠ lb → w'.heap[b]? = w.heap[b]?
theorem Kept1.refl (w : World) (lb : Nat) : Kept1 w w lb := ⟨rfl, fun _ _ => rfl⟩
theorem Kept1.trans {a b c : World} {lb : Nat} (h : Kept1 a b lb) (k : Kept1 b c lb) : Kept1 a c lb := ⟨k.size.trans h.size, fun x hx => (k.same x hx).trans (h.same x hx)⟩
theorem Kept1.set {w w1 : World} {lb : Nat} (h : Kept1 w w1 lb) (j : Nat) (u : Value) : Kept1 w (w1.setCell ⟨lb, j, none⟩ u) lb :=
  ⟨by rw [← h.size]; simp, fun b hb => (Below.heap_setCell w1 _ _ b hb).trans (h.same b hb)⟩
section
variable {w0 w w1 : World} {lb : Nat} {words ptrs tag choices pointer : Int} {pv sv : Value} {h : Holes}
theorem Lay.hole (H : Lay w0 w lb words ptrs tag choices pointer pv sv h) (s : Nat) (hs : s ≤ 5) : w.cell? ⟨lb, 2 + s, none⟩ = some (.int .i64 (hcell h s)) ∧ w.frozen? ⟨lb, 2 + s, none⟩ = false := by
  refine ⟨(blk_cell H.row (2 + s)).trans ?_, blk_frozen H.row _⟩
  match s, hs with
  | 0, _ => rfl
  | 1, _ => rfl
  | 2, _ => rfl
  | 3, _ => rfl
  | 4, _ => rfl
  | 5, _ => rfl
theorem Lay.put (H : Lay w0 w lb words ptrs tag choices pointer pv sv h) (s : Nat) (hs : s ≤ 5) (v : Option Int) (x : Int) (hx : hval v s = x) : Lay w0 (w.setCell ⟨lb, 2 + s, none⟩ (.int .i64 x)) lb words ptrs tag choices pointer pv sv (hset h s v) := by
  refine ⟨?_, H.old, below_set H.below H.old⟩
  have := blk_set H.row (2 + s) (.int .i64 x)
  rw [this]
  simp only [hcell_set, hx]
  match s, hs with
  | 0, _ => rfl
  | 1, _ => rfl
  | 2, _ => rfl
  | 3, _ => rfl
  | 4, _ => rfl
  | 5, _ => rfl
end
def holeV (r : Option (Int × Holes)) (s : Nat) : Int := match r with
  | some x => x.1 / 2 ^ s
  | none => -1
def holeH (r : Option (Int × Holes)) (h : Holes) : Holes := match r with
  | some x => x.2
  | none => h
set_option maxHeartbeats 4000000 in
set_option maxRecDepth 100000 in
theorem hole_calls (w0 : World) (lb : Nat) (words ptrs tag choices pointer : Int) (pv sv : Value) : ∀ (d s : Nat) (h : Holes) (w : World), s + d = 6 → HJ h → Lay w0 w lb words ptrs tag choices pointer pv sv h →
    Calls Tryd.prog 58 #[.pointer (some ⟨lb, 0, none⟩), .int .i64 (s : Int)] w fun e w' => e = .returned (.int .i64 (holeV (holeR h s d) s)) ∧
      Lay w0 w' lb words ptrs tag choices pointer pv sv (holeH (holeR h s d) h) ∧ Kept1 w w' lb := by
  intro d
  induction d with
  | zero =>
    intro s h w hs HJ HL
    have c : (s : Int) ≥ 6 := by omega
    have HL := Aside0.mk HL
    clear HJ hs
    go_enter Tryd.func58, Tryd.ntmps58
    go_wp2
    go_ret
    exact ⟨rfl, HL.out, Kept1.refl _ _⟩
  | succ d ih =>
    intro s h w hs HJ HL
    have c : ¬ (s : Int) ≥ 6 := by omega
    have c2 : (s : Int) < 6 := by omega
    obtain ⟨hc, hf⟩ := HL.hole s (by omega)
    have HI := Aside0.mk (fun W => ih (s + 1) h W (by omega) HJ)
    have HLL := Aside0.mk HL
    have HS := Aside0.mk hs
    have hw1 : wrap64 ((s : Int) + 1) = ((s + 1 : Nat) : Int) := by rw [w64 (by omega) (by omega)]; rfl
    rcases ho : h s with _ | o
    · have e : hcell h s = 0 := hcell_none ho
      rw [e] at hc
      have hcall := ih (s + 1) h w (by omega) HJ HL
      have hlt1 : (s : Int) + 1 = ((s + 1 : Nat) : Int) := rfl
      rw [← hlt1] at hcall hw1
      cases hr : holeR h (s + 1) d with
      | none =>
        have HR := Aside0.mk (show holeR h s (d + 1) = none by unfold holeR; rw [ho]; simp only; rw [hr])
        rw [hr] at hcall
        clear hr ho e HJ ih hs HL hlt1
        go_enter Tryd.func58, Tryd.ntmps58
        go_wp2_with (go_at_call 58; refine hcall.mono ?_; rintro e w1 ⟨rfl, hL1, hK1⟩; have A1 := Aside0.mk hL1; have A2 := Aside0.mk hK1; clear hL1 hK1; simp only [holeV])
        go_ret
        rw [HR.out]
        exact ⟨rfl, A1.out, A2.out⟩
      | some r =>
        obtain ⟨o, h'⟩ := r
        obtain ⟨f1, f2, f3⟩ := holeR_fit HJ d (s + 1) (o, h') (by omega) hr
        obtain ⟨t1, t2⟩ := two_div f3
        have HR := Aside0.mk (show holeR h s (d + 1) = some (o, hset h' s (some (o + 2 ^ s))) by unfold holeR; rw [ho]; simp only; rw [hr])
        rw [hr] at hcall
        have f1' : 0 ≤ o := f1
        have f2' : o ≤ 100000 := f2
        have hy0 : 0 ≤ o / 2 ^ (s + 1) := Int.ediv_nonneg f1' (by have := p2pos (s + 1); omega)
        have hy1 : o / 2 ^ (s + 1) ≤ o := Int.ediv_le_self _ f1'
        have hcall2 : Calls Tryd.prog 58 #[.pointer (some ⟨lb, 0, none⟩), .int .i64 ((s : Int) + 1)] w fun e w' => e = .returned (.int .i64 (o / 2 ^ (s + 1))) ∧ Lay w0 w' lb words ptrs tag choices pointer pv sv h' ∧ Kept1 w w' lb := hcall
        have T1 := Aside0.mk t1
        have T2 := Aside0.mk t2
        clear hcall f1 f3 f2 t1 t2
        generalize o / 2 ^ (s + 1) = y at *
        have cy : decide (y < 0) = false := decide_eq_false (by omega)
        have w1y : wrap64 (2 * y) = 2 * y := w64 (by omega) (by omega)
        have w2y : wrap64 (2 * y + 1) = 2 * y + 1 := w64 (by omega) (by omega)
        have w3y : wrap64 (wrap64 (2 * y) + 1) = 2 * y + 1 := by rw [w1y]; exact w2y
        clear hr ho e HJ ih hs HL hlt1 hy0 hy1 f1' f2'
        go_enter Tryd.func58, Tryd.ntmps58
        go_wp2_with (go_at_call 58; refine hcall2.mono ?_; rintro e w1 ⟨rfl, hL1, hK1⟩; obtain ⟨hc1, hf1⟩ := hL1.hole s (by have := HS.out; omega); have A1 := Aside0.mk hL1; have A2 := Aside0.mk hK1; clear hL1 hK1)
        go_ret
        rw [HR.out]
        exact ⟨by show _ = Ending.returned (.int .i64 (o / 2 ^ s)); rw [T1.out]; exact congrArg (fun x => Ending.returned (Value.int .i64 x)) w1y, A1.out.put s (by have := HS.out; omega) (some (o + 2 ^ s)) (2 * y + 1) T2.out, A2.out.set _ _⟩
    · obtain ⟨h1, h2, h3⟩ := HJ s (by omega) o ho
      have e : hcell h s = o / 2 ^ s := hcell_some ho
      have hp := div_pos2 h1 h3
      rw [← e] at hp
      have HR := Aside0.mk (show holeR h s (d + 1) = some (o, hset h s none) by unfold holeR; rw [ho])
      have HE := Aside0.mk e
      clear h1 h2 h3 e ho HJ ih hs HL hw1
      generalize hcell h s = x at *
      have cx : decide (0 < x) = true := decide_eq_true (by omega)
      clear hp
      go_enter Tryd.func58, Tryd.ntmps58
      go_wp2
      go_ret
      rw [HR.out]
      exact ⟨by rw [HE.out]; rfl, HLL.out.put s (by have := HS.out; omega) none 0 rfl, (Kept1.refl w lb).set _ _⟩
end Go.Proofs.YtjjcepnadjociaaDoor
namespace Go.Proofs.YtjjcepnadjociaaDoor
set_option linter.unusedVariables false
set_option linter.unusedSimpArgs false
open Go.RowKit Go.Proofs.YtjjcepnadjociaaDoor.Lem Go.Proofs.YtjjcepnadjociaaDoorW.PrintWords Go.Proofs.YtjjcepnadjociaaDoorW.PrintLast Go.Proofs.YtjjcepnadjociaaDoorW.PrintMore
theorem d64 (w : Int) (u : Nat) (hu : u ≤ 6) : (2 : Int) ^ u ∣ 64 * w := Int.dvd_trans (p2dvd (a := u) (b := 6) hu) ⟨w, rfl⟩
section
variable {w0 w w1 : World} {lb : Nat} {words ptrs tag choices pointer : Int} {pv sv : Value} {h : Holes}
theorem Lay.set_ (H : Lay w0 w lb words ptrs tag choices pointer pv sv h) (j : Nat) (x : Value) {words' ptrs' tag' choices' pointer' : Int} {pv' sv' : Value}
    (he : (#[.int .i64 words, .int .i64 ptrs, .int .i64 (hcell h 0), .int .i64 (hcell h 1), .int .i64 (hcell h 2), .int .i64 (hcell h 3), .int .i64 (hcell h 4), .int .i64 (hcell h 5), .int .i64 tag, .int .i64 choices, pv, sv, .int .i64 pointer] : Array Value).setIfInBounds j x = #[.int .i64 words', .int .i64 ptrs', .int .i64 (hcell h 0), .int .i64 (hcell h 1), .int .i64 (hcell h 2), .int .i64 (hcell h 3), .int .i64 (hcell h 4), .int .i64 (hcell h 5), .int .i64 tag', .int .i64 choices', pv', sv', .int .i64 pointer']) :
    Lay w0 (w.setCell ⟨lb, j, none⟩ x) lb words' ptrs' tag' choices' pointer' pv' sv' h :=
  ⟨by rw [← he]; exact blk_set H.row j x, H.old, below_set H.below H.old⟩
theorem Lay.at_ (H : Lay w0 w lb words ptrs tag choices pointer pv sv h) (j : Nat) {v : Value} (hv : (#[.int .i64 words, .int .i64 ptrs, .int .i64 (hcell h 0), .int .i64 (hcell h 1), .int .i64 (hcell h 2), .int .i64 (hcell h 3), .int .i64 (hcell h 4), .int .i64 (hcell h 5), .int .i64 tag, .int .i64 choices, pv, sv, .int .i64 pointer] : Array Value)[j]? = some v) :
    w.cell? ⟨lb, j, none⟩ = some v ∧ w.frozen? ⟨lb, j, none⟩ = false := ⟨(blk_cell H.row j).trans hv, blk_frozen H.row j⟩
end
theorem at_div (w : Int) (s : Nat) (hs : s ≤ 6) : w * 2 ^ (6 - s) = 64 * w / 2 ^ s := by
  have e : (64 : Int) = 2 ^ (6 - s) * 2 ^ s := by
    rw [← Int.pow_add, show 6 - s + s = 6 by omega]; rfl
  have hp := p2pos s
  rw [e, Int.mul_right_comm, Int.mul_ediv_cancel _ (by omega), Int.mul_comm]
theorem fill_step (h : Holes) (o : Int) (u : Nat) (h5 : u ≤ 5) : fillUp h o u (6 - u) = fillUp (hset h u (some (o + 2 ^ u))) o (u + 1) (6 - (u + 1)) := by
  rw [show 6 - u = (6 - (u + 1)) + 1 by omega]
  simp only [fillUp]
theorem rest_step (w : Int) (u : Nat) (hu : u ≤ 5) : (64 * w / 2 ^ u + 1 + 1) / 2 = 64 * w / 2 ^ (u + 1) + 1 := by
  have h := (two_div (d64 w (u + 1) (by omega))).1
  rw [h]
  omega
set_option maxHeartbeats 4000000 in
set_option maxRecDepth 100000 in
theorem data_calls (w0 w : World) (lb : Nat) (words ptrs tag choices pointer : Int) (pv sv : Value) (s : Nat) (h : Holes) (hs : s ≤ 6) (hH : HI words h) (hw : 0 ≤ words ∧ words ≤ 100) (HL : Lay w0 w lb words ptrs tag choices pointer pv sv h) :
    Calls Tryd.prog 53 #[.pointer (some ⟨lb, 0, none⟩), .int .i64 (s : Int)] w fun e w' => e = .returned (.int .i64 ((findV words h s).1 / 2 ^ s)) ∧
      Lay w0 w' lb (findV words h s).2.1 ptrs tag choices pointer pv sv (findV words h s).2.2 ∧ Kept1 w w' lb := by
  have hJ : HJ h := fun u hu v hv => by
    obtain ⟨a, b, c⟩ := hH u hu v hv
    have := p2pos u
    exact ⟨a, by omega, c⟩
  have hcall := hole_calls w0 lb words ptrs tag choices pointer pv sv (6 - s) s h w (by omega) hJ HL
  have hV := findV_holeR words h s hs
  cases hr : holeR h s (6 - s) with
  | some r =>
    obtain ⟨o, h'⟩ := r
    obtain ⟨f1, f2, f3⟩ := holeR_fit hJ (6 - s) s (o, h') (by omega) hr
    rw [hr] at hcall hV
    have HV := Aside0.mk (show findV words h s = (o, words, h') from hV)
    have hy0 : 0 ≤ o / 2 ^ s := Int.ediv_nonneg f1 (by have := p2pos s; omega)
    have hcall2 : Calls Tryd.prog 58 #[.pointer (some ⟨lb, 0, none⟩), .int .i64 (s : Int)] w fun e w' => e = .returned (.int .i64 (o / 2 ^ s)) ∧ Lay w0 w' lb words ptrs tag choices pointer pv sv h' ∧ Kept1 w w' lb := hcall
    clear hcall f1 f2 f3 hr hV hJ hH hs HL hw
    rw [HV.out]
    have cy : decide (o / 2 ^ s ≥ 0) = true := decide_eq_true hy0
    generalize o / 2 ^ s = y at *
    go_enter Tryd.func53, Tryd.ntmps53
    go_wp2_with (go_at_call 58; refine hcall2.mono ?_; rintro e w1 ⟨rfl, hL1, hK1⟩)
    go_ret
    exact ⟨rfl, hL1, hK1⟩
  | none =>
    rw [hr] at hcall hV
    have hcall2 : Calls Tryd.prog 58 #[.pointer (some ⟨lb, 0, none⟩), .int .i64 (s : Int)] w fun e w' => e = .returned (.int .i64 (-1)) ∧ Lay w0 w' lb words ptrs tag choices pointer pv sv h ∧ Kept1 w w' lb := hcall
    have HV := Aside0.mk (show findV words h s = (64 * words, words + 1, fillUp h (64 * words) s (6 - s)) from hV)
    have HS := Aside0.mk hs
    have HW := Aside0.mk hw
    have hw1 : wrap64 (words + 1) = words + 1 := w64 (by omega) (by omega)
    have hs6 : wrap64 (6 - (s : Int)) = ((6 - s : Nat) : Int) := by rw [w64 (by omega) (by omega)]; omega
    clear hcall hr hV hJ hH hs HL hw
    rw [HV.out]
    go_enter Tryd.func53, Tryd.ntmps53
    go_wp2_with (go_at_call 58; refine hcall2.mono ?_; rintro e w1 ⟨rfl, hL1, hK1⟩; obtain ⟨c0, f0⟩ := hL1.at_ 0 rfl; have A1 := Aside0.mk hL1; have A2 := Aside0.mk hK1; clear hL1 hK1)
    have hq0 : 0 ≤ words * 2 ^ (6 - s) ∧ words * 2 ^ (6 - s) ≤ 6400 := by
      have hp := p2pos (6 - s)
      have hm := p2mono (a := 6 - s) (b := 6) (by omega)
      have hh := HW.out
      refine ⟨Int.mul_nonneg hh.1 (by omega), ?_⟩
      calc words * 2 ^ (6 - s) ≤ 100 * 2 ^ (6 - s) := Int.mul_le_mul_of_nonneg_right hh.2 (by omega)
        _ ≤ 100 * 2 ^ 6 := Int.mul_le_mul_of_nonneg_left hm (by decide)
        _ = 6400 := by decide
    have A0 := Aside0.mk (show wrap64 (words * 2 ^ (6 - s)) = 64 * words / 2 ^ s by rw [w64 (by omega) (by omega)]; exact at_div words s HS.out)
    have A5 := Aside0.mk (show wrap64 (wrap64 (words * 2 ^ (6 - s)) + 1) = 64 * words / 2 ^ s + 1 by rw [w64 (n := words * 2 ^ (6 - s)) (by omega) (by omega), w64 (by omega) (by omega), at_div words s HS.out])
    have A3 := Aside0.mk (A1.out.set_ 0 (.int .i64 (words + 1)) (words' := words + 1) rfl)
    have A4 := Aside0.mk (A2.out.set 0 (.int .i64 (words + 1)))
    clear hq0 A1 A2 c0 f0
    go_loopg [6, 7] 7 (fun gg s6 s7 wr => ∃ (u : Nat) (x : Int), s7 = .int .i64 (u : Int) ∧ s6 = .int .i64 x ∧ Aside0 (x = 64 * words / 2 ^ u + 1 ∧ s ≤ u ∧ u ≤ 6 ∧ 6 - u ≤ gg) ∧ Aside0 (∃ h2, Lay w0 wr lb (words + 1) ptrs tag choices pointer pv sv h2 ∧ fillUp h2 (64 * words) u (6 - u) = fillUp h (64 * words) s (6 - s)) ∧ Aside0 (Kept1 w wr lb))
    case atStart => exact ⟨s, _, rfl, rfl, ⟨A5.out, Nat.le_refl _, HS.out, by omega⟩, ⟨h, A3.out, rfl⟩, A4⟩
    case round =>
      clear A3 A4 A5
      obtain ⟨u, x, rfl, rfl, HX, HP, HK⟩ := hrel
      obtain ⟨hx, hsu, hu6, hgg⟩ := HX.out
      obtain ⟨h2, hL2, hF⟩ := HP.out
      by_cases h5 : u ≤ 5
      · have cu : (u : Int) < 6 := by omega
        obtain ⟨cc, ff⟩ := hL2.hole u h5
        have hwu : wrap64 ((u : Int) + 1) = (u : Int) + 1 := w64 (by omega) (by omega)
        have hxb : 0 ≤ x ∧ x ≤ 6401 := by
          have hd := Int.ediv_nonneg (show 0 ≤ 64 * words by have := HW.out; omega) (show (0 : Int) ≤ 2 ^ u by have := p2pos u; omega)
          have hd2 := Int.ediv_le_self (2 ^ u) (show 0 ≤ 64 * words by have := HW.out; omega)
          have := HW.out
          omega
        have A6 := Aside0.mk (show wrap64 ((wrap64 (x + 1)).tdiv 2) = 64 * words / 2 ^ (u + 1) + 1 by
          rw [w64 (n := x + 1) (by omega) (by omega), Int.tdiv_eq_ediv_of_nonneg (by omega), w64 (by omega) (by omega), hx]
          exact rest_step words u h5)
        have A7 := Aside0.mk (hL2.put u h5 (some (64 * words + 2 ^ u)) x (by
          show (64 * words + 2 ^ u) / 2 ^ u = x
          rw [hx, Int.add_ediv_of_dvd_left (d64 words u (by omega)), Int.ediv_self (by have := p2pos u; omega)]))
        have A8 := Aside0.mk (show fillUp (hset h2 u (some (64 * words + 2 ^ u))) (64 * words) (u + 1) (6 - (u + 1)) = fillUp h (64 * words) s (6 - s) by
          rw [← hF]; exact (fill_step h2 (64 * words) u h5).symm)
        have H5 := Aside0.mk h5
        have HG := Aside0.mk hgg
        have HSU := Aside0.mk hsu
        clear hx hsu hu6 hgg hL2 hF h5 HX HP hxb hw1 hs6
        go_wp2
        go_roundg (5 - u)
        case measure => have := HG.out; have := H5.out; omega
        case rel =>
          have h5 := H5.out
          have hsu := HSU.out
          exact ⟨u + 1, _, by first | rfl | (rw [hwu]; rfl), rfl, ⟨A6.out, by omega, by omega, by omega⟩, ⟨_, A7.out, A8.out⟩, ⟨HK.out.set _ _⟩⟩
      · have cu : ¬ (u : Int) < 6 := by omega
        have e6 : u = 6 := by omega
        subst e6
        have hF2 : fillUp h (64 * words) s (6 - s) = h2 := by rw [← hF, Nat.sub_self]; simp only [fillUp]
        have A9 := Aside0.mk hF2
        have A10 := Aside0.mk hL2
        clear hF2 hL2 hF hx hsu hu6 hgg HX HP h5
        go_wp2
        go_ret
        rw [A9.out]
        exact ⟨congrArg (fun x => Ending.returned (Value.int .i64 x)) A0.out, A10.out, HK.out⟩
end Go.Proofs.YtjjcepnadjociaaDoor
namespace Go.Proofs.YtjjcepnadjociaaDoor
set_option linter.unusedVariables false
set_option linter.unusedSimpArgs false
open Go.RowKit Go.Proofs.YtjjcepnadjociaaDoor.Lem Go.Proofs.YtjjcepnadjociaaDoorW.PrintWords Go.Proofs.YtjjcepnadjociaaDoorW.PrintLast Go.Proofs.YtjjcepnadjociaaDoorW.PrintMore
abbrev kI : Kd Int := Kd.int .i64
/-- Rows of other types stand as they stood. -/
structure KeptS (w w' : World) : Prop where
  size : w.heap.size ≤ w'.heap.size
  same : ∀ (k : Nat) (cs : Array Value) (t : TypeId) (fr : Nat × Nat), w.heap[k]? = some (Obj.cells cs t fr) → t ≠ 80 → t ≠ 3 → w'.heap[k]? = some (Obj.cells cs t fr)
theorem KeptS.refl (w : World) : KeptS w w := ⟨Nat.le_refl _, fun _ _ _ _ h _ _ => h⟩
theorem KeptS.trans {a b c : World} (h : KeptS a b) (k : KeptS b c) : KeptS a c := ⟨Nat.le_trans h.size k.size, fun b cs t fr e h1 h2 => k.same b cs t fr (h.same b cs t fr e h1 h2) h1 h2⟩
theorem KeptS.of_below {w w' : World} (h : Below w.heap.size w w') : KeptS w w' := ⟨h.size, fun k cs t fr e _ _ => (h.block k (Array.getElem?_eq_some_iff.mp e).1).trans e⟩
theorem KeptS.of_one {w w' : World} {g : Nat} {cs0 : Array Value} {t0 : TypeId} {fr0 : Nat × Nat} (h : w.heap[g]? = some (.cells cs0 t0 fr0)) (ht : t0 = 80 ∨ t0 = 3) (hK : Kept1 w w' g) : KeptS w w' := by
  refine ⟨by rw [hK.size]; exact Nat.le_refl _, fun k cs t fr e h1 h2 => ?_⟩
  by_cases hk : k = g
  · subst hk
    rw [h] at e
    injection e with e
    injection e with e1 e2 e3
    subst e2
    rcases ht with ht | ht
    · exact absurd ht h1
    · exact absurd ht h2
  · exact (hK.same k hk).trans e
theorem KeptS.of_grown {w w' : World} {row : Option Nat} (hg : w.grownBy w' row) (hr : ∀ k, row = some k → ∃ cs, w.heap[k]? = some (Obj.cells cs 3 (0, 0))) : KeptS w w' := by
  refine ⟨hg.size, fun k cs t fr e h1 h2 => (hg.block k (Array.getElem?_eq_some_iff.mp e).1 (fun hk => ?_)).trans e⟩
  obtain ⟨cs1, e1⟩ := hr k hk.symm
  rw [e1] at e
  injection e with e
  injection e with _ e2 _
  exact h2 e2.symm
theorem RI_move {w w1 : World} {base : Nat} {ok : Nat → Prop} {v : Value} {xs : List Int} (h : kI.R 3 w base ok v xs) (hm : ∀ k, v.ownBlock = some k → w1.heap[k]? = w.heap[k]?) : kI.R 3 w1 base ok v xs := by
  obtain ⟨h0, inner, ho, hr⟩ := h
  exact ⟨h0, inner, own_move ho hm, hr⟩
theorem RI_ok {w : World} {base : Nat} {ok ok' : Nat → Prop} {v : Value} {xs : List Int} (h : kI.R 3 w base ok v xs) (hm : ∀ k, v.ownBlock = some k → ok' k) : kI.R 3 w base ok' v xs := by
  obtain ⟨h0, inner, ho, hr⟩ := h
  exact ⟨hm, inner, ho, hr⟩
theorem RI_typed {w : World} {base : Nat} {ok : Nat → Prop} {v : Value} {xs : List Int} (h : kI.R 3 w base ok v xs) (k : Nat) (hk : v.ownBlock = some k) : ∃ cs, w.heap[k]? = some (Obj.cells cs 3 (0, 0)) := by
  obtain ⟨h0, inner, ho, hr⟩ := h
  exact own_typed ho k hk
def places (l : List (Int × Nat)) : List Int := l.map (fun r => r.1 / 2 ^ r.2)
def scales (l : List (Int × Nat)) : List Int := l.map (fun r => (r.2 : Int))
/-- The reference's plan in memory, its rows' values told. -/
structure IsLv (w0 w : World) (lb : Nat) (p : PS) (pv sv : Value) : Prop where
  lay : Lay w0 w lb p.words p.ptrs p.tag p.choices p.pointer pv sv p.h
  places : kI.R 3 w w0.heap.size (fun k => k ≠ lb) pv (places p.rooms)
  scales : kI.R 3 w w0.heap.size (fun k => k ≠ lb ∧ some k ≠ pv.ownBlock) sv (scales p.rooms)
structure IsL (w0 w : World) (lb : Nat) (p : PS) : Prop where mk ::
  out : ∃ pv sv, IsLv w0 w lb p pv sv
section
variable {w0 w w1 : World} {lb : Nat} {p q : PS} {pv sv : Value} {words ptrs tag choices pointer : Int} {h : Holes}
theorem Lay.grown (H : Lay w0 w lb words ptrs tag choices pointer pv sv h) {row : Option Nat} (hg : w.grownBy w1 row) (h1 : some lb ≠ row) (hb : Below w0.heap.size w0 w1) : Lay w0 w1 lb words ptrs tag choices pointer pv sv h :=
  ⟨(hg.block lb (Array.getElem?_eq_some_iff.mp H.row).1 h1).trans H.row, H.old, hb⟩
theorem Lay.below_ (H : Lay w0 w lb words ptrs tag choices pointer pv sv h) (hb : Below w.heap.size w w1) : Lay w0 w1 lb words ptrs tag choices pointer pv sv h :=
  ⟨(hb.block lb (Array.getElem?_eq_some_iff.mp H.row).1).trans H.row, H.old, H.below.trans (hb.mono H.below.size)⟩
theorem IsLv.below_ (H : IsLv w0 w lb p pv sv) (hb : Below w.heap.size w w1) : IsLv w0 w1 lb p pv sv := ⟨H.lay.below_ hb, Kd.R_below H.places hb, Kd.R_below H.scales hb⟩
theorem IsL.below_ (H : IsL w0 w lb p) (hb : Below w.heap.size w w1) : IsL w0 w1 lb p := by
  obtain ⟨pv, sv, h⟩ := H.out
  exact ⟨pv, sv, h.below_ hb⟩
theorem IsL.low (H : IsL w0 w lb p) : Below w0.heap.size w0 w := by
  obtain ⟨pv, sv, h⟩ := H.out
  exact h.lay.below
/-- The plan's own row is written; the others' rows stay. -/
theorem IsLv.one (H : IsLv w0 w lb p pv sv) (hK : Kept1 w w1 lb) (hL : Lay w0 w1 lb q.words q.ptrs q.tag q.choices q.pointer pv sv q.h) (hr : q.rooms = p.rooms) : IsLv w0 w1 lb q pv sv ∧ KeptS w w1 := by
  refine ⟨⟨hL, ?_, ?_⟩, KeptS.of_one H.lay.row (.inl rfl) hK⟩
  · rw [hr]; exact RI_move H.places (fun k hk => hK.same k (H.places.1 k hk))
  · rw [hr]; exact RI_move H.scales (fun k hk => hK.same k (H.scales.1 k hk).1)
theorem IsLv.set_ (H : IsLv w0 w lb p pv sv) (j : Nat) (x : Value) (hh : q.h = p.h) (hr : q.rooms = p.rooms)
    (he : (#[.int .i64 p.words, .int .i64 p.ptrs, .int .i64 (hcell p.h 0), .int .i64 (hcell p.h 1), .int .i64 (hcell p.h 2), .int .i64 (hcell p.h 3), .int .i64 (hcell p.h 4), .int .i64 (hcell p.h 5), .int .i64 p.tag, .int .i64 p.choices, pv, sv, .int .i64 p.pointer] : Array Value).setIfInBounds j x = #[.int .i64 q.words, .int .i64 q.ptrs, .int .i64 (hcell p.h 0), .int .i64 (hcell p.h 1), .int .i64 (hcell p.h 2), .int .i64 (hcell p.h 3), .int .i64 (hcell p.h 4), .int .i64 (hcell p.h 5), .int .i64 q.tag, .int .i64 q.choices, pv, sv, .int .i64 q.pointer]) :
    IsLv w0 (w.setCell ⟨lb, j, none⟩ x) lb q pv sv ∧ KeptS w (w.setCell ⟨lb, j, none⟩ x) :=
  H.one ((Kept1.refl w lb).set j x) (by rw [hh]; exact H.lay.set_ j x he) hr
end
theorem datav_calls (w0 w : World) (lb kw k : Nat) (p : PS) (pv sv : Value) (s : Nat) (hs : s ≤ 6) (hi : Inv kw k p) (hk : kw ≤ 40) (H : IsLv w0 w lb p pv sv) :
    Calls Tryd.prog 53 #[.pointer (some ⟨lb, 0, none⟩), .int .i64 (s : Int)] w fun e w' => e = .returned (.int .i64 ((findP p s).1 / 2 ^ s)) ∧ IsLv w0 w' lb (findP p s).2 pv sv ∧ KeptS w w' := by
  have hw := hi.words
  refine (data_calls w0 w lb p.words p.ptrs p.tag p.choices p.pointer pv sv s p.h hs hi.hi (by omega) H.lay).mono ?_
  rintro e w' ⟨rfl, hL, hK⟩
  obtain ⟨a, b⟩ := H.one (q := (findP p s).2) hK hL rfl
  exact ⟨rfl, a, b⟩
theorem shift_up {x : Int} {s a : Nat} (hs : s ≤ a) (hd : (2 : Int) ^ a ∣ x) : x / 2 ^ a * 2 ^ (a - s) = x / 2 ^ s := by
  obtain ⟨q, rfl⟩ := hd
  have h1 := p2pos a
  have h2 := p2pos s
  have e : (2 : Int) ^ a = 2 ^ s * 2 ^ (a - s) := by rw [← Int.pow_add, show s + (a - s) = a by omega]
  rw [Int.mul_ediv_cancel_left _ (by omega), e, Int.mul_assoc, Int.mul_ediv_cancel_left _ (by omega), Int.mul_comm]
theorem at_int {w : World} {A : Option Addr} {n : Nat} {xs : List Int} (h : kI.C w A n xs) (i : Nat) (h1 : i < xs.length) (hn : n = xs.length) : ∃ ad, A = some ad ∧ w.cell? (ad.add i) = some (.int .i64 xs[i]) := by
  obtain ⟨ad, c, e, _, hK, hc0⟩ := Kd.C_get h 0 (i : Int) (by omega) (by omega)
  have hc : ∀ j u, c[j]? = some u → w.cell? (ad.add ((i : Int).toNat * 1 + j)) = some u := hc0
  obtain rfl : c = [.int .i64 (xs.getD (i : Int).toNat 0)] := hK
  have q := hc 0 _ rfl
  rw [Nat.mul_one, Nat.add_zero, Int.toNat_natCast, List.getD_eq_getElem?_getD, List.getElem?_eq_getElem h1, Option.getD_some] at q
  exact ⟨ad, e, q⟩
set_option maxHeartbeats 4000000 in
set_option maxRecDepth 100000 in
theorem rooms_calls (w0 w : World) (lb kw k : Nat) (q : PS) (s : Nat) (hs : s ≤ 6) (hi : Inv kw k q) (hk : kw ≤ 30 ∧ k ≤ 15) (H : IsL w0 w lb q) :
    Calls Tryd.prog 54 #[.pointer (some ⟨lb, 0, none⟩), .int .i64 (s : Int)] w fun e w' => e = .returned (.int .i64 ((roomP q s).1 / 2 ^ s)) ∧ IsL w0 w' lb (roomP q s).2 ∧ KeptS w w' := by
  obtain ⟨pv, sv, hv⟩ := H.out
  have hpl := (Kd.R_slice hv.places)
  have hsl := (Kd.R_slice hv.scales)
  obtain ⟨Ap, cp, rfl⟩ := hpl
  obtain ⟨As, cs, rfl⟩ := hsl
  have hCp := (Kd.R_reads' hv.places).2.2
  have hCs := (Kd.R_reads' hv.scales).2.2
  have lp : (places q.rooms).length = q.rooms.length := by unfold places; rw [List.length_map]
  have ls : (scales q.rooms).length = q.rooms.length := by unfold scales; rw [List.length_map]
  rw [lp] at hv hCp
  rw [ls] at hv hCs
  have d10 := (hv.lay.at_ 10 (v := .slice Ap q.rooms.length cp) rfl).1
  have d11 := (hv.lay.at_ 11 (v := .slice As q.rooms.length cs) rfl).1
  have HV := Aside0.mk hv
  have HCP := Aside0.mk hCp
  have HCS := Aside0.mk hCs
  have HI := Aside0.mk hi
  have HK := Aside0.mk hk
  have HS := Aside0.mk hs
  have LP := Aside0.mk lp
  have LS := Aside0.mk ls
  obtain ⟨R, hR0⟩ : ∃ R, R = firstRoom q.rooms s := ⟨_, rfl⟩
  have B7 := Aside0.mk hR0
  clear hv hCp hCs hi hk hs H lp ls hR0
  go_enter Tryd.func54, Tryd.ntmps54
  go_wp2
  go_loopg [5] q.rooms.length (fun gg s5 wr => ∃ kk : Nat, s5 = .int .i64 kk ∧ Aside0 (kk ≤ q.rooms.length ∧ q.rooms.length - kk ≤ gg) ∧ Aside0 (wr = w) ∧ Aside0 (firstRoom (q.rooms.drop kk) s = R))
  case atStart => exact ⟨0, rfl, ⟨Nat.zero_le _, by omega⟩, ⟨rfl⟩, ⟨B7.out.symm⟩⟩
  case round =>
    obtain ⟨kk, rfl, HKK, ⟨rfl⟩, HF⟩ := hrel
    by_cases hlt : kk < q.rooms.length
    · have hltz : (kk : Int) < (q.rooms.length : Int) := by omega
      obtain ⟨adp, e1, hx0⟩ := at_int HCP.out kk (by rw [LP.out]; exact hlt) LP.out.symm
      obtain ⟨ads, e2, hx1⟩ := at_int HCS.out kk (by rw [LS.out]; exact hlt) LS.out.symm
      subst e1 e2
      have hd : q.rooms.drop kk = q.rooms[kk] :: q.rooms.drop (kk + 1) := List.drop_eq_getElem_cons hlt
      have hrr := HI.out.rooms q.rooms[kk] (List.getElem_mem hlt)
      have hg0 : (places q.rooms)[kk]'(by rw [LP.out]; exact hlt) = q.rooms[kk].1 / 2 ^ q.rooms[kk].2 := by unfold places; rw [List.getElem_map]
      have hg1 : (scales q.rooms)[kk]'(by rw [LS.out]; exact hlt) = (q.rooms[kk].2 : Int) := by unfold scales; rw [List.getElem_map]
      rw [hg0] at hx0
      rw [hg1] at hx1
      have HF1 := HF.out
      rw [hd] at HF1
      unfold firstRoom at HF1
      clear hd HF hg0 hg1
      generalize q.rooms[kk] = rm at hx0 hx1 HF1 hrr
      obtain ⟨x, sc⟩ := rm
      have hx0' : wr.cell? (adp.add kk) = some (.int .i64 (x / 2 ^ sc)) := hx0
      have hx1' : wr.cell? (ads.add kk) = some (.int .i64 (sc : Int)) := hx1
      clear hx0 hx1
      obtain ⟨r1, r2, r3, r4⟩ := hrr
      have r1' : sc ≤ 6 := r1
      have r2' : 0 ≤ x := r2
      have r4' : (2 : Int) ^ sc ∣ x := r4
      have r3' : x ≤ 100000 := by
        have h1 : x + 2 ^ sc ≤ 64 * q.words := r3
        have h2 := p2pos sc
        have h3 := HI.out.words
        have h4 := HK.out
        omega
      by_cases hsc : s ≤ sc
      · have hge : decide ((sc : Int) ≥ (s : Int)) = true := decide_eq_true (by omega)
        rw [if_pos hsc] at HF1
        have A1 := Aside0.mk (show x / 2 ^ sc * 2 ^ (sc - s) = x / 2 ^ s from shift_up hsc r4')
        have hb0 : 0 ≤ x / 2 ^ s := Int.ediv_nonneg r2' (by have := p2pos s; omega)
        have hb1 : x / 2 ^ s ≤ x := Int.ediv_le_self _ r2'
        have A2 := Aside0.mk (show wrap64 (x / 2 ^ sc * 2 ^ min (sc - s) 64) = x / 2 ^ s by rw [Nat.min_eq_left (by omega), A1.out]; exact w64 (by omega) (by omega))
        have hsub : wrap64 ((sc : Int) - (s : Int)) = ((sc - s : Nat) : Int) := by rw [w64 (by omega) (by omega)]; omega
        have HF2 := Aside0.mk HF1
        have B9 := Aside0.mk (show roomP q s = (x, q) by unfold roomP; rw [← B7.out, ← HF1])
        clear HF1 r1 r2 r3 r4 r1' r2' r3' r4' hb0 hb1 A1
        have e0 : wr.drew.cell? ⟨lb, 10, none⟩ = some (.slice (some adp) q.rooms.length cp) := d10
        have e1 : wr.drew.cell? ⟨lb, 11, none⟩ = some (.slice (some ads) q.rooms.length cs) := d11
        have e2 : wr.drew.cell? (adp.add kk) = some (.int .i64 (x / 2 ^ sc)) := hx0'
        have e3 : wr.drew.cell? (ads.add kk) = some (.int .i64 (sc : Int)) := hx1'
        go_wp2
        refine start_ (n := 18) (S := fun w' => w'.cell? ⟨lb, 10, none⟩ = some (.slice (some adp) q.rooms.length cp) ∧ w'.cell? ⟨lb, 11, none⟩ = some (.slice (some ads) q.rooms.length cs) ∧ w'.cell? (adp.add kk) = some (.int .i64 (x / 2 ^ sc)) ∧ w'.cell? (ads.add kk) = some (.int .i64 (sc : Int))) (ds := []) #[false, false, false, false, false, false, false, false, false, false, false, false, false, false, false, false, false, false] (by kernel_rfl) rfl rfl ⟨e0, e1, e2, e3⟩ (fun hHeld => ?_)
        refine pure_ (i := 0) (N := some 25) (v := ?_) (a' := ?_) #[true, false, false, false, false, false, false, false, false, false, false, false, false, false, false, false, false, false] rfl rfl (by kernel_rfl) (fun _ _ _ h => h) (Or.inl ⟨by rfl, ?_⟩) ?_ ?_
        rotate_left
        · intro w'
          go_simp
          with_reducible rfl
        rotate_left
        · simp only [Act.put, List.setIfInBounds_toArray, List.set_cons_zero, List.set_cons_succ, i64_w, i32_w]
          rfl
        refine pure_ (i := 1) (N := some 26) (v := ?_) (a' := ?_) #[true, true, false, false, false, false, false, false, false, false, false, false, false, false, false, false, false, false] rfl rfl (by kernel_rfl) (fun _ _ _ h => h) (Or.inl ⟨by rfl, ?_⟩) ?_ ?_
        rotate_left
        · intro w'
          go_simp
          with_reducible rfl
        rotate_left
        · simp only [Act.put, List.setIfInBounds_toArray, List.set_cons_zero, List.set_cons_succ, i64_w, i32_w]
          rfl
        refine pure_ (i := 2) (N := some 27) (v := ?_) (a' := ?_) #[true, true, true, false, false, false, false, false, false, false, false, false, false, false, false, false, false, false] rfl rfl (by kernel_rfl) (fun _ _ _ h => h) (Or.inl ⟨by rfl, ?_⟩) ?_ ?_
        rotate_left
        · intro w'
          go_simp
          with_reducible rfl
        rotate_left
        · simp only [Act.put, List.setIfInBounds_toArray, List.set_cons_zero, List.set_cons_succ, i64_w, i32_w]
          rfl
        refine pure_ (i := 4) (N := some 29) (v := ?_) (a' := ?_) #[true, true, true, false, true, false, false, false, false, false, false, false, false, false, false, false, false, false] rfl rfl (by kernel_rfl) (fun _ _ _ h => h) (Or.inl ⟨by rfl, ?_⟩) ?_ ?_
        rotate_left
        · intro w'
          go_simp
          with_reducible rfl
        rotate_left
        · simp only [Act.put, List.setIfInBounds_toArray, List.set_cons_zero, List.set_cons_succ, i64_w, i32_w]
          rfl
        refine pure_ (i := 7) (N := some 32) (v := ?_) (a' := ?_) #[true, true, true, false, true, false, false, true, false, false, false, false, false, false, false, false, false, false] rfl rfl (by kernel_rfl) (fun _ _ _ h => h) (Or.inl ⟨by rfl, ?_⟩) ?_ ?_
        rotate_left
        · intro w'
          go_simp
          with_reducible rfl
        rotate_left
        · simp only [Act.put, List.setIfInBounds_toArray, List.set_cons_zero, List.set_cons_succ, i64_w, i32_w]
          rfl
        refine pure_ (i := 8) (N := some 33) (v := ?_) (a' := ?_) #[true, true, true, false, true, false, false, true, true, false, false, false, false, false, false, false, false, false] rfl rfl (by kernel_rfl) (fun _ _ _ h => h) (Or.inl ⟨by rfl, ?_⟩) ?_ ?_
        rotate_left
        · intro w'
          go_simp
          with_reducible rfl
        rotate_left
        · simp only [Act.put, List.setIfInBounds_toArray, List.set_cons_zero, List.set_cons_succ, i64_w, i32_w]
          rfl
        refine pure_ (i := 9) (N := some 34) (v := ?_) (a' := ?_) #[true, true, true, false, true, false, false, true, true, true, false, false, false, false, false, false, false, false] rfl rfl (by kernel_rfl) (fun _ _ _ h => h) (Or.inl ⟨by rfl, ?_⟩) ?_ ?_
        rotate_left
        · intro w'
          go_simp
          with_reducible rfl
        rotate_left
        · simp only [Act.put, List.setIfInBounds_toArray, List.set_cons_zero, List.set_cons_succ, i64_w, i32_w]
          rfl
        refine pure_ (i := 11) (N := some 36) (v := ?_) (a' := ?_) #[true, true, true, false, true, false, false, true, true, true, false, true, false, false, false, false, false, false] rfl rfl (by kernel_rfl) (fun _ _ _ h => h) (Or.inl ⟨by rfl, ?_⟩) ?_ ?_
        rotate_left
        · intro w'
          go_simp
          with_reducible rfl
        rotate_left
        · simp only [Act.put, List.setIfInBounds_toArray, List.set_cons_zero, List.set_cons_succ, i64_w, i32_w]
          rfl
        refine pure_ (i := 14) (N := some 39) (v := ?_) (a' := ?_) #[true, true, true, false, true, false, false, true, true, true, false, true, false, false, true, false, false, false] rfl rfl (by kernel_rfl) (fun _ _ _ h => h) (Or.inl ⟨by rfl, ?_⟩) ?_ ?_
        rotate_left
        · intro w'
          go_simp
          with_reducible rfl
        rotate_left
        · simp only [Act.put, List.setIfInBounds_toArray, List.set_cons_zero, List.set_cons_succ, i64_w, i32_w]
          rfl
        refine take_ (i := 3) (N := some 28) (v := ?_) (a' := ?_) #[true, true, true, true, true, false, false, true, true, true, false, true, false, false, true, false, false, false] rfl rfl (by kernel_rfl) (fun _ _ _ h => h) (Or.inl ⟨by rfl, ?_⟩) hHeld ?_ ?_
        rotate_left
        · rintro w' ⟨s0, s1, s2, s3⟩
          go_simp
          with_reducible rfl
        rotate_left
        · simp only [Act.put, List.setIfInBounds_toArray, List.set_cons_zero, List.set_cons_succ, i64_w, i32_w]
          rfl
        refine pure_ (i := 5) (N := some 30) (v := ?_) (a' := ?_) #[true, true, true, true, true, true, false, true, true, true, false, true, false, false, true, false, false, false] rfl rfl (by kernel_rfl) (fun _ _ _ h => h) (Or.inl ⟨by rfl, ?_⟩) ?_ ?_
        rotate_left
        · intro w'
          go_simp
          with_reducible rfl
        rotate_left
        · simp only [Act.put, List.setIfInBounds_toArray, List.set_cons_zero, List.set_cons_succ, i64_w, i32_w]
          rfl
        refine take_ (i := 6) (N := some 31) (v := ?_) (a' := ?_) #[true, true, true, true, true, true, true, true, true, true, false, true, false, false, true, false, false, false] rfl rfl (by kernel_rfl) (fun _ _ _ h => h) (Or.inl ⟨by rfl, ?_⟩) hHeld ?_ ?_
        rotate_left
        · rintro w' ⟨s0, s1, s2, s3⟩
          go_simp
          with_reducible rfl
        rotate_left
        · simp only [Act.put, List.setIfInBounds_toArray, List.set_cons_zero, List.set_cons_succ, i64_w, i32_w]
          rfl
        refine take_ (i := 10) (N := some 35) (v := ?_) (a' := ?_) #[true, true, true, true, true, true, true, true, true, true, true, true, false, false, true, false, false, false] rfl rfl (by kernel_rfl) (fun _ _ _ h => h) (Or.inl ⟨by rfl, ?_⟩) hHeld ?_ ?_
        rotate_left
        · rintro w' ⟨s0, s1, s2, s3⟩
          go_simp
          with_reducible rfl
        rotate_left
        · simp only [Act.put, List.setIfInBounds_toArray, List.set_cons_zero, List.set_cons_succ, i64_w, i32_w]
          rfl
        refine pure_ (i := 12) (N := some 37) (v := ?_) (a' := ?_) #[true, true, true, true, true, true, true, true, true, true, true, true, true, false, true, false, false, false] rfl rfl (by kernel_rfl) (fun _ _ _ h => h) (Or.inl ⟨by rfl, ?_⟩) ?_ ?_
        rotate_left
        · intro w'
          go_simp
          with_reducible rfl
        rotate_left
        · simp only [Act.put, List.setIfInBounds_toArray, List.set_cons_zero, List.set_cons_succ, i64_w, i32_w]
          rfl
        refine take_ (i := 13) (N := some 38) (v := ?_) (a' := ?_) #[true, true, true, true, true, true, true, true, true, true, true, true, true, true, true, false, false, false] rfl rfl (by kernel_rfl) (fun _ _ _ h => h) (Or.inl ⟨by rfl, ?_⟩) hHeld ?_ ?_
        rotate_left
        · rintro w' ⟨s0, s1, s2, s3⟩
          go_simp
          with_reducible rfl
        rotate_left
        · simp only [Act.put, List.setIfInBounds_toArray, List.set_cons_zero, List.set_cons_succ, i64_w, i32_w]
          rfl
        refine pure_ (i := 15) (N := some 40) (v := ?_) (a' := ?_) #[true, true, true, true, true, true, true, true, true, true, true, true, true, true, true, true, false, false] rfl rfl (by kernel_rfl) (fun _ _ _ h => h) (Or.inl ⟨by rfl, ?_⟩) ?_ ?_
        rotate_left
        · intro w'
          go_simp
          with_reducible rfl
        rotate_left
        · simp only [Act.put, List.setIfInBounds_toArray, List.set_cons_zero, List.set_cons_succ, i64_w, i32_w]
          rfl
        refine pure_ (i := 16) (N := some 41) (v := ?_) (a' := ?_) #[true, true, true, true, true, true, true, true, true, true, true, true, true, true, true, true, true, false] rfl rfl (by kernel_rfl) (fun _ _ _ h => h) (Or.inl ⟨by rfl, ?_⟩) ?_ ?_
        rotate_left
        · intro w'
          go_simp
          with_reducible rfl
        rotate_left
        · simp only [Act.put, List.setIfInBounds_toArray, List.set_cons_zero, List.set_cons_succ, i64_w, i32_w]
          rfl
        refine pure_ (i := 17) (N := some 4) (v := ?_) (a' := ?_) #[true, true, true, true, true, true, true, true, true, true, true, true, true, true, true, true, true, true] rfl rfl (by kernel_rfl) (fun _ _ _ h => h) (Or.inl ⟨by rfl, ?_⟩) ?_ ?_
        rotate_left
        · intro w'
          go_simp
          with_reducible rfl
        rotate_left
        · simp only [Act.put, List.setIfInBounds_toArray, List.set_cons_zero, List.set_cons_succ, i64_w, i32_w]
          rfl
        refine done_ (by kernel_rfl) ?_
        go_wp2
        go_ret
        rw [B9.out]
        exact ⟨congrArg (fun x => Ending.returned (Value.int .i64 x)) A2.out, ⟨_, _, HV.out.below_ (below_drew (Below.refl _ _))⟩, KeptS.of_below (below_drew (Below.refl _ _))⟩
      · have hge : decide ((sc : Int) ≥ (s : Int)) = false := decide_eq_false (by omega)
        rw [if_neg hsc] at HF1
        have HF2 := Aside0.mk HF1
        have hk2 := w64 (n := (kk : Int) + 1) (by have := HI.out.many; have := HK.out; omega) (by have := HI.out.many; have := HK.out; omega)
        clear HF1 r1 r2 r3 r4 r1' r2' r3' r4'
        go_wp2
        go_roundg (q.rooms.length - (kk + 1))
        case measure => have := HKK.out; omega
        case rel => exact ⟨kk + 1, by first | rfl | (rw [hk2]; rfl), ⟨by omega, by omega⟩, ⟨rfl⟩, HF2⟩
    · have hltz : ¬ (kk : Int) < (q.rooms.length : Int) := by omega
      have HF1 := HF.out
      rw [List.drop_eq_nil_of_le (by omega)] at HF1
      have A3 := Aside0.mk (show roomP q s = ((findP q s).1, { (findP q s).2 with rooms := q.rooms ++ [((findP q s).1, s)] }) by unfold roomP; rw [← B7.out, ← HF1]; rfl)
      have hc := datav_calls w0 wr lb kw k q _ _ s HS.out HI.out (by have := HK.out; omega) HV.out
      have A5 := Aside0.mk (show (findP q s).2.rooms = q.rooms from rfl)
      have hml := Aside0.mk (show q.rooms.length ≤ 20 by have := HI.out.many; have := HK.out; omega)
      have hinfo : (Tryd.prog.info? 3).map (fun i => (i.zero, i.size, i.bytes)) = some (some (.int .i64 0), 1, 8) := by kernel_rfl
      clear HF1 HF
      generalize findP q s = R2 at *
      obtain ⟨x, q2⟩ := R2
      have A7 := Aside0.mk (show q2.rooms = q.rooms from A5.out)
      clear A5
      obtain ⟨y, hy0⟩ : ∃ y, y = x / 2 ^ s := ⟨_, rfl⟩
      have HY := Aside0.mk hy0
      have hc2 : Calls Tryd.prog 53 #[.pointer (some ⟨lb, 0, none⟩), .int .i64 (s : Int)] wr fun e w' => e = .returned (.int .i64 y) ∧ IsLv w0 w' lb q2 (.slice Ap q.rooms.length cp) (.slice As q.rooms.length cs) ∧ KeptS wr w' := by rw [hy0]; exact hc
      clear hc hy0 hlt
      obtain ⟨L1, hL1⟩ : ∃ L1, L1 = q.rooms.length + 1 := ⟨_, rfl⟩
      have HL1 := Aside0.mk hL1
      clear hL1
      go_upto_region 8 with (first
        | (go_at_call 53; refine hc2.mono ?_; rintro e w1 ⟨rfl, hI1, hK1⟩; have g10 := (hI1.lay.at_ 10 (v := .slice Ap q.rooms.length cp) rfl).1; have A8 := Aside0.mk hI1; have A9 := Aside0.mk hK1; clear hI1 hK1 hc2)
        | ((with_reducible refine gate_builtin (b := .append) (xs := #[.tmp 49, .tmp 51]) rfl ?_); at_builtin; refine Kd.R_append kI (w0 := w0) w0.heap.size rfl (.tmp 49) (.tmp 51) 45 3 (.int .i64 0) 8 rfl Tryd.underlying45 hinfo rfl (by decide) (by omega) (.slice Ap q.rooms.length cp) (places q2.rooms) y [.int .i64 y] (fun k => k ≠ lb) (fun _ => False) rfl rfl rfl (fun _ hk => hk.elim) (fun k hk => (fun e => (by have := (Array.getElem?_eq_some_iff.mp A8.out.lay.row).1; omega))) A8.out.places A8.out.lay.below A8.out.lay.below.size (by rw [A7.out, LP.out]; have := hml.out; omega) ?_; intro v2 w2 ho hb hg hat
           obtain ⟨A2', c2', er⟩ := Kd.R_slice ho
           have er2 : v2 = .slice A2' L1 c2' := er.trans (by rw [List.length_append, A7.out, LP.out, HL1.out]; rfl)
           subst er2
           clear er
           have k1 := A8.out.lay.grown hg (fun e => (A8.out.places.1 _ e.symm) rfl) hb
           have f10 := k1.at_ 10 (v := .slice Ap q.rooms.length cp) rfl
           obtain ⟨f10a, f10b⟩ := f10
           have f11 := (k1.at_ 11 (v := .slice As q.rooms.length cs) rfl).1
           have A10 := Aside0.mk k1
           have A11 := Aside0.mk (Kd.R_after (ok := fun k => k ≠ lb) A8.out.scales hg hat)
           have A12 := Aside0.mk ho
           have A13 := Aside0.mk (A9.out.trans (KeptS.of_grown hg (fun k hk => RI_typed A8.out.places k hk)))
           clear k1 ho hb hg hat g10)
        | go_in)
      have A14 := Aside0.mk (A10.out.set_ 10 (.slice A2' L1 c2') (pv' := .slice A2' L1 c2') rfl)
      have A15 := Aside0.mk (RI_move A12.out (fun k hk => Below.heap_setCell w2 ⟨lb, 10, none⟩ (.slice A2' L1 c2') k (A12.out.1 k hk)))
      have A16 := Aside0.mk (RI_move A11.out (fun k hk => Below.heap_setCell w2 ⟨lb, 10, none⟩ (.slice A2' L1 c2') k (A11.out.1 k hk).1))
      have A17 := Aside0.mk (A13.out.trans (KeptS.of_one A10.out.row (.inl rfl) ((Kept1.refl w2 lb).set 10 (.slice A2' L1 c2'))))
      clear f10a f10b f11 A10 A11 A12 A13
      generalize w2.setCell ⟨lb, 10, none⟩ (.slice A2' L1 c2') = w5 at *
      have f11 := (A14.out.at_ 11 (v := .slice As q.rooms.length cs) rfl).1
      go_wp2_with (first
        | ((with_reducible refine gate_builtin (b := .append) (xs := #[.tmp 59, .tmp 61]) rfl ?_); at_builtin; refine Kd.R_append kI (w0 := w0) w0.heap.size rfl (.tmp 59) (.tmp 61) 45 3 (.int .i64 0) 8 rfl Tryd.underlying45 hinfo rfl (by decide) (by omega) (.slice As q.rooms.length cs) (scales q2.rooms) (s : Int) [.int .i64 (s : Int)] (fun k => k ≠ lb ∧ some k ≠ (Value.slice A2' L1 c2').ownBlock) (fun _ => False) rfl rfl rfl (fun _ hk => hk.elim) (fun k hk => ⟨fun e => (by have := (Array.getElem?_eq_some_iff.mp A14.out.row).1; omega), fun e => (by have := Kd.R_lt A15.out k e.symm; omega)⟩) A16.out A14.out.below A14.out.below.size (by rw [A7.out, LS.out]; have := hml.out; omega) ?_; intro v3 w3 ho3 hb3 hg3 hat3
           obtain ⟨A3', c3', er⟩ := Kd.R_slice ho3
           have er2 : v3 = .slice A3' L1 c3' := er.trans (by rw [List.length_append, A7.out, LS.out, HL1.out]; rfl)
           subst er2
           clear er
           have k1 := A14.out.grown hg3 (fun e => (A16.out.1 _ e.symm).1 rfl) hb3
           obtain ⟨f11a, f11b⟩ := k1.at_ 11 (v := .slice As q.rooms.length cs) rfl
           have A18 := Aside0.mk k1
           have A19 := Aside0.mk (RI_move A15.out (fun k hk => hg3.block k (Kd.R_lt A15.out k hk) (fun e => (A16.out.1 k e.symm).2 hk.symm)))
           have A20 := Aside0.mk ho3
           have A21 := Aside0.mk (A17.out.trans (KeptS.of_grown hg3 (fun k hk => RI_typed A16.out k hk)))
           clear k1 ho3 hb3 hg3 hat3 f11)
        | go_in)
      go_ret
      rw [A3.out, ← HY.out]
      have k2 := A18.out.set_ 11 (.slice A3' L1 c3') (sv' := .slice A3' L1 c3') rfl
      have hf : ∀ k, k ≠ lb → (w3.setCell ⟨lb, 11, none⟩ (.slice A3' L1 c3')).heap[k]? = w3.heap[k]? := fun k hk => Below.heap_setCell w3 _ _ k hk
      refine ⟨rfl, ⟨_, _, ⟨k2, ?_, ?_⟩⟩, A21.out.trans (KeptS.of_one A18.out.row (.inl rfl) ((Kept1.refl w3 lb).set 11 _))⟩
      · have := RI_move A19.out (fun k hk => hf k (A19.out.1 k hk))
        have e : places (q.rooms ++ [(x, s)]) = places q2.rooms ++ [y] := by rw [A7.out, HY.out]; unfold places; rw [List.map_append]; rfl
        rw [← e] at this
        exact this
      · have := RI_move A20.out (fun k hk => hf k (A20.out.1 k hk).1)
        have e : scales (q.rooms ++ [(x, s)]) = scales q2.rooms ++ [(s : Int)] := by rw [A7.out]; unfold scales; rw [List.map_append]; rfl
        rw [← e] at this
        exact this
end Go.Proofs.YtjjcepnadjociaaDoor
namespace Go.Proofs.YtjjcepnadjociaaDoor
set_option linter.unusedVariables false
set_option linter.unusedSimpArgs false
open Go.RowKit Go.Proofs.YtjjcepnadjociaaDoor.Lem Go.Proofs.YtjjcepnadjociaaDoorW.PrintWords Go.Proofs.YtjjcepnadjociaaDoorW.PrintLast Go.Proofs.YtjjcepnadjociaaDoorW.PrintMore
set_option maxRecDepth 100000 in
theorem scale_calls (size : Int) (hs : 1 ≤ size ∧ size ≤ 6) (w : World) :
    Calls Tryd.prog 55 #[.int .i64 size] w fun e w' => e = .returned (.int .i64 (scl size : Nat)) ∧ w' = w := by
  rcases (by omega : size = 1 ∨ size = 2 ∨ size = 3 ∨ size = 4 ∨ size = 5 ∨ size = 6) with rfl | rfl | rfl | rfl | rfl | rfl
  all_goals (clear hs; go_enter Tryd.func55, Tryd.ntmps55; go_wp2; go_ret; exact ⟨rfl, rfl⟩)
theorem IsLv.all {w0 w : World} {lb : Nat} {p : PS} {pv sv : Value} (h : IsLv w0 w lb p pv sv) : IsL w0 w lb p := ⟨_, _, h⟩
set_option maxHeartbeats 4000000 in
set_option maxRecDepth 100000 in
theorem field_calls (w0 w : World) (lb kw k : Nat) (p : PS) (size : Int) (ch : Bool) (els : Int) (hs : 1 ≤ size ∧ size ≤ 6) (hi : Inv kw k p) (hk : kw ≤ 25 ∧ k ≤ 12) (H : IsL w0 w lb p) :
    Calls Tryd.prog 50 #[.pointer (some ⟨lb, 0, none⟩), .agg #[.int .i64 size, .bool ch, .int .i64 els]] w fun e w' => e = .returned (.int .i64 (putP p size ch).1) ∧ IsL w0 w' lb (putP p size ch).2 ∧ KeptS w w' := by
  obtain ⟨W2, hW2⟩ : ∃ W2, W2 = w.alloc (.cells #[.int .i64 size, .bool ch, .int .i64 els] 27) := ⟨_, rfl⟩
  have hB2 : Below w.heap.size w W2 := by rw [hW2]; exact below_alloc (Below.refl _ _) _
  have HI2 := H.below_ hB2
  have b1 : W2.heap[w.heap.size]? = some (.cells #[.int .i64 size, .bool ch, .int .i64 els] 27 (0, 0)) := by
    rw [hW2]
    simpa using heap_alloc_new w _
  have HW2 := Aside0.mk hW2
  have HK := Aside0.mk hk
  have HI := Aside0.mk hi
  have HS := Aside0.mk hs
  have A2 := Aside0.mk (KeptS.of_below hB2)
  have B1 := Aside0.mk b1
  obtain ⟨pv, sv, hv⟩ := HI2.out
  have HV := Aside0.mk hv
  have hsc := fun W => scale_calls size hs W
  cases ch with
  | false =>
    by_cases h6 : size = 6
    · have h6b : (size == 6) = true := beq_iff_eq.mpr h6
      have A3 := Aside0.mk (show putP p size false = (p.ptrs, { p with ptrs := p.ptrs + 1 }) by unfold putP; rw [if_neg (by decide), if_pos h6])
      obtain ⟨c1, f1⟩ := hv.lay.at_ 1 (v := .int .i64 p.ptrs) rfl
      have hp := hi.ptrs
      have hw : wrap64 (p.ptrs + 1) = p.ptrs + 1 := w64 (by omega) (by omega)
      have hw2 : wrap64 (p.ptrs + 1 - 1) = p.ptrs := by rw [show p.ptrs + 1 - 1 = p.ptrs by omega]; exact w64 (by omega) (by omega)
      have hw3 : wrap64 p.ptrs = p.ptrs := w64 (by omega) (by omega)
      have A4 := Aside0.mk (hv.set_ 1 (.int .i64 (p.ptrs + 1)) (q := { p with ptrs := p.ptrs + 1 }) rfl rfl rfl)
      have hne : lb ≠ w.heap.size := fun e => by
        have e1 := hv.lay.row
        rw [e, b1] at e1
        injection e1 with e1
        injection e1 with _ e2 _
        exact absurd e2 (by decide)
      rw [hW2] at c1 f1
      clear hW2 hB2 HI2 b1 hi hk hs H hv h6 hp hsc
      go_enter Tryd.func50, Tryd.ntmps50
      go_wp2
      rw [← HW2.out]
      go_ret
      rw [A3.out]
      exact ⟨by first | rfl | exact congrArg (fun x => Ending.returned (Value.int .i64 x)) hw3, A4.out.1.all, A2.out.trans A4.out.2⟩
    · have h6b : (size == 6) = false := beq_eq_false_iff_ne.mpr h6
      have hc := datav_calls w0 W2 lb kw k p pv sv (scl size) (scl_le size) hi (by omega) hv
      have A3 := Aside0.mk (show putP p size false = ((findP p (scl size)).1 / 2 ^ scl size, (findP p (scl size)).2) by unfold putP; rw [if_neg (by decide), if_neg h6])
      rw [hW2] at hc
      clear hW2 hB2 HI2 b1 hi hk hs H hv h6
      go_enter Tryd.func50, Tryd.ntmps50
      go_wp2_with (first
        | (go_at_call 55; refine (hsc _).mono ?_; rintro e w1 ⟨rfl, rfl⟩)
        | (go_at_call 53; refine hc.mono ?_; rintro e w1 ⟨rfl, hI1, hK1⟩)
        | go_in)
      go_ret
      rw [← HW2.out] at hK1
      rw [A3.out]
      exact ⟨rfl, hI1.all, A2.out.trans hK1⟩
  | true =>
    have hch := hi.choices
    obtain ⟨c9, f9⟩ := hv.lay.at_ 9 (v := .int .i64 p.choices) rfl
    have hw1 : wrap64 (p.choices + 1) = p.choices + 1 := w64 (by omega) (by omega)
    have A1 := Aside0.mk (hv.set_ 9 (.int .i64 (p.choices + 1)) (q := { p with choices := p.choices + 1 }) rfl rfl rfl)
    have hne : lb ≠ w.heap.size := fun e => by
      have e1 := hv.lay.row
      rw [e, b1] at e1
      injection e1 with e1
      injection e1 with _ e2 _
      exact absurd e2 (by decide)
    have c10 : W2.cell? ⟨w.heap.size, 1, none⟩ = some (.bool true) := (blk_cell b1 1).trans rfl
    rw [hW2] at c9 f9 c10
    clear hW2 hB2 HI2 b1 hi hk hs H hv hsc hch
    go_enter Tryd.func50, Tryd.ntmps50
    go_upto_if 19 with fail
    go_cut [] (fun wc => Aside0 (IsL w0 wc lb (tagP p) ∧ KeptS W2 wc))
    case first =>
      by_cases h2 : p.choices + 1 = 2
      · have hb : (p.choices + 1 == 2) = true := beq_iff_eq.mpr h2
        have hcall := datav_calls w0 _ lb kw (k + 1) { p with choices := p.choices + 1 } pv sv 4 (by decide) HI.out.choose (by have := HK.out; omega) A1.out.1
        have A3 := Aside0.mk (show tagP p = { (findP { p with choices := p.choices + 1 } 4).2 with tag := (findP { p with choices := p.choices + 1 } 4).1 / 16 } by unfold tagP; rw [if_pos h2])
        have hcall2 : Calls Tryd.prog 53 #[.pointer (some ⟨lb, 0, none⟩), .int .i64 4] (W2.setCell ⟨lb, 9, none⟩ (.int .i64 (p.choices + 1))) fun e w' => e = .returned (.int .i64 ((findP { p with choices := p.choices + 1 } 4).1 / 16)) ∧ IsLv w0 w' lb (findP { p with choices := p.choices + 1 } 4).2 pv sv ∧ KeptS (W2.setCell ⟨lb, 9, none⟩ (.int .i64 (p.choices + 1))) w' := hcall
        clear hcall
        generalize findP { p with choices := p.choices + 1 } 4 = r at *
        obtain ⟨r1, q⟩ := r
        rw [HW2.out] at hcall2
        clear h2
        go_wp2_with (go_at_call 53; refine hcall2.mono ?_; rintro e w1 ⟨rfl, hI1, hK1⟩; obtain ⟨c8, f8⟩ := hI1.lay.at_ 8 (v := .int .i64 q.tag) rfl; have A4 := Aside0.mk hI1; have A5 := Aside0.mk hK1; clear hI1 hK1 hcall2)
        go_meet
        case rel =>
          have hK5 := A5.out
          rw [← HW2.out] at hK5
          rw [A3.out]
          have hS := A4.out.set_ 8 (.int .i64 (r1 / 16)) (q := { q with tag := r1 / 16 }) rfl rfl rfl
          exact ⟨hS.1.all, (A1.out.2.trans hK5).trans hS.2⟩
      · have hb : (p.choices + 1 == 2) = false := beq_eq_false_iff_ne.mpr h2
        have A3 := Aside0.mk (show tagP p = { p with choices := p.choices + 1 } by unfold tagP; rw [if_neg h2])
        clear h2
        go_wp2
        go_meet
        case rel => rw [← HW2.out, A3.out]; exact ⟨A1.out.1.all, A1.out.2⟩
    case rest =>
      obtain ⟨hIt, hKt⟩ := hcut.out
      have hit := HI.out.tagged
      have b1 := hKt.same _ _ _ _ B1.out (by decide) (by decide)
      have c20 : wc.cell? ⟨w.heap.size, 0, none⟩ = some (.int .i64 size) := (blk_cell b1 0).trans rfl
      have c21 : wc.cell? ⟨w.heap.size, 1, none⟩ = some (.bool true) := (blk_cell b1 1).trans rfl
      clear hcut A1 c9 f9 c10 hw1
      have hsc := fun W => scale_calls size HS.out W
      by_cases h6 : size = 6
      · have h6b : (size == 6) = true := beq_iff_eq.mpr h6
        have A3 := Aside0.mk (show putP p size true = pointP (tagP p) by unfold putP; rw [if_pos rfl, if_pos h6]; unfold choiceP; rw [if_pos h6])
        clear hsc h6
        generalize tagP p = q at *
        obtain ⟨pv', sv', hv⟩ := hIt.out
        obtain ⟨c1, f1⟩ := hv.lay.at_ 1 (v := .int .i64 q.ptrs) rfl
        obtain ⟨c12, f12⟩ := hv.lay.at_ 12 (v := .int .i64 q.pointer) rfl
        by_cases hn : q.pointer < 0
        · have A4 := Aside0.mk (show pointP q = (q.ptrs, { q with pointer := q.ptrs, ptrs := q.ptrs + 1 }) by unfold pointP; rw [if_pos hn])
          have hb := decide_eq_true hn
          have hw : wrap64 (q.ptrs + 1) = q.ptrs + 1 := by
            have := hit.ptrs
            have := HK.out
            exact w64 (by omega) (by omega)
          have B2 := Aside0.mk hv
          have B3 := Aside0.mk hKt
          clear hIt hKt hv hit hn b1
          go_wp2
          go_ret
          rw [A3.out, A4.out]
          have hS := B2.out.set_ 12 (.int .i64 q.ptrs) (q := { q with pointer := q.ptrs }) rfl rfl rfl
          have hS2 := hS.1.set_ 1 (.int .i64 (q.ptrs + 1)) (q := { q with pointer := q.ptrs, ptrs := q.ptrs + 1 }) rfl rfl rfl
          exact ⟨rfl, hS2.1.all, ((A2.out.trans B3.out).trans hS.2).trans hS2.2⟩
        · have A4 := Aside0.mk (show pointP q = (q.pointer, q) by unfold pointP; rw [if_neg hn])
          have hb := decide_eq_false hn
          have B2 := Aside0.mk hv
          have B3 := Aside0.mk hKt
          clear hIt hKt hv hit hn b1
          go_wp2
          go_ret
          rw [A3.out, A4.out]
          exact ⟨rfl, B2.out.all, A2.out.trans B3.out⟩
      · have h6b : (size == 6) = false := beq_eq_false_iff_ne.mpr h6
        have A3 := Aside0.mk (show putP p size true = ((roomP (tagP p) (scl size)).1 / 2 ^ scl size, (roomP (tagP p) (scl size)).2) by unfold putP; rw [if_pos rfl, if_neg h6]; unfold choiceP; rw [if_neg h6])
        have hc := rooms_calls w0 wc lb (kw + 1) (k + 1) (tagP p) (scl size) (scl_le size) hit (by have := HK.out; omega) hIt
        have B3 := Aside0.mk hKt
        clear h6 hIt hKt hit b1
        go_wp2_with (first
          | (go_at_call 55; refine (hsc _).mono ?_; rintro e w1 ⟨rfl, rfl⟩)
          | (go_at_call 54; refine hc.mono ?_; rintro e w1 ⟨rfl, hI1, hK1⟩)
          | go_in)
        go_ret
        rw [A3.out]
        exact ⟨rfl, hI1, (A2.out.trans B3.out).trans hK1⟩
end Go.Proofs.YtjjcepnadjociaaDoor
