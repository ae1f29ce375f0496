/- The reference's search for a hole, walked. -/
import Derived.Test.YtjjcepnadjociaaDoorLemHole
import Derived.Test.YtjjcepnadjociaaDoorStubFind
namespace Go.Proofs.YtjjcepnadjociaaDoor
set_option linter.unusedVariables false
set_option linter.unusedSimpArgs false
open Go.RowKit Go.Proofs.YtjjcepnadjociaaDoor.Lem Go.Proofs.YtjjcepnadjociaaDoorW.PrintWords Go.Proofs.YtjjcepnadjociaaDoorW.PrintLast Go.Proofs.YtjjcepnadjociaaDoorW.PrintMore
/-- The reference's plan in memory, its two rows told by their values. -/
structure Lay (w0 w : World) (lb : Nat) (words ptrs tag choices pointer : Int) (pv sv : Value) (h : Holes) : Prop where
  row : w.heap[lb]? = some (.cells #[.int .i64 words, .int .i64 ptrs, .int .i64 (hcell h 0), .int .i64 (hcell h 1), .int .i64 (hcell h 2), .int .i64 (hcell h 3), .int .i64 (hcell h 4), .int .i64 (hcell h 5), .int .i64 tag, .int .i64 choices, pv, sv, .int .i64 pointer] 80 (0, 0))
  old : w0.heap.size ≤ lb
  below : Below w0.heap.size w0 w
/-- All blocks but one stand as they stood. -/
structure Kept1 (w w' : World) (lb : Nat) : Prop where
  size : w'.heap.size = w.heap.size
  same : ∀ b, b ≠ lb → w'.heap[b]? = w.heap[b]?
theorem Kept1.refl (w : World) (lb : Nat) : Kept1 w w lb := ⟨rfl, fun _ _ => rfl⟩
theorem Kept1.trans {a b c : World} {lb : Nat} (h : Kept1 a b lb) (k : Kept1 b c lb) : Kept1 a c lb := ⟨k.size.trans h.size, fun x hx => (k.same x hx).trans (h.same x hx)⟩
theorem Kept1.set {w w1 : World} {lb : Nat} (h : Kept1 w w1 lb) (j : Nat) (u : Value) : Kept1 w (w1.setCell ⟨lb, j, none⟩ u) lb :=
  ⟨by rw [← h.size]; simp, fun b hb => (Below.heap_setCell w1 _ _ b hb).trans (h.same b hb)⟩
section
variable {w0 w w1 : World} {lb : Nat} {words ptrs tag choices pointer : Int} {pv sv : Value} {h : Holes}
theorem Lay.hole (H : Lay w0 w lb words ptrs tag choices pointer pv sv h) (s : Nat) (hs : s ≤ 5) : w.cell? ⟨lb, 2 + s, none⟩ = some (.int .i64 (hcell h s)) ∧ w.frozen? ⟨lb, 2 + s, none⟩ = false := by
  refine ⟨(blk_cell H.row (2 + s)).trans ?_, blk_frozen H.row _⟩
  match s, hs with
  | 0, _ => rfl
  | 1, _ => rfl
  | 2, _ => rfl
  | 3, _ => rfl
  | 4, _ => rfl
  | 5, _ => rfl
theorem Lay.put (H : Lay w0 w lb words ptrs tag choices pointer pv sv h) (s : Nat) (hs : s ≤ 5) (v : Option Int) (x : Int) (hx : hval v s = x) : Lay w0 (w.setCell ⟨lb, 2 + s, none⟩ (.int .i64 x)) lb words ptrs tag choices pointer pv sv (hset h s v) := by
  refine ⟨?_, H.old, below_set H.below H.old⟩
  have := blk_set H.row (2 + s) (.int .i64 x)
  rw [this]
  simp only [hcell_set, hx]
  match s, hs with
  | 0, _ => rfl
  | 1, _ => rfl
  | 2, _ => rfl
  | 3, _ => rfl
  | 4, _ => rfl
  | 5, _ => rfl
end
def holeV (r : Option (Int × Holes)) (s : Nat) : Int := match r with
  | some x => x.1 / 2 ^ s
  | none => -1
def holeH (r : Option (Int × Holes)) (h : Holes) : Holes := match r with
  | some x => x.2
  | none => h
set_option maxHeartbeats 4000000 in
set_option maxRecDepth 100000 in
theorem hole_calls (w0 : World) (lb : Nat) (words ptrs tag choices pointer : Int) (pv sv : Value) : ∀ (d s : Nat) (h : Holes) (w : World), s + d = 6 → HJ h → Lay w0 w lb words ptrs tag choices pointer pv sv h →
    Calls Tryd.prog 58 #[.pointer (some ⟨lb, 0, none⟩), .int .i64 (s : Int)] w fun e w' => e = .returned (.int .i64 (holeV (holeR h s d) s)) ∧
      Lay w0 w' lb words ptrs tag choices pointer pv sv (holeH (holeR h s d) h) ∧ Kept1 w w' lb := by
  intro d
  induction d with
  | zero =>
    intro s h w hs HJ HL
    have c : (s : Int) ≥ 6 := by omega
    have HL := Aside0.mk HL
    clear HJ hs
    go_enter Tryd.func58, Tryd.ntmps58
    go_wp2
    go_ret
    exact ⟨rfl, HL.out, Kept1.refl _ _⟩
  | succ d ih =>
    intro s h w hs HJ HL
    have c : ¬ (s : Int) ≥ 6 := by omega
    have c2 : (s : Int) < 6 := by omega
    obtain ⟨hc, hf⟩ := HL.hole s (by omega)
    have HI := Aside0.mk (fun W => ih (s + 1) h W (by omega) HJ)
    have HLL := Aside0.mk HL
    have HS := Aside0.mk hs
    have hw1 : wrap64 ((s : Int) + 1) = ((s + 1 : Nat) : Int) := by rw [w64 (by omega) (by omega)]; rfl
    rcases ho : h s with _ | o
    · have e : hcell h s = 0 := hcell_none ho
      rw [e] at hc
      have hcall := ih (s + 1) h w (by omega) HJ HL
      have hlt1 : (s : Int) + 1 = ((s + 1 : Nat) : Int) := rfl
      rw [← hlt1] at hcall hw1
      cases hr : holeR h (s + 1) d with
      | none =>
        have HR := Aside0.mk (show holeR h s (d + 1) = none by unfold holeR; rw [ho]; simp only; rw [hr])
        rw [hr] at hcall
        clear hr ho e HJ ih hs HL hlt1
        go_enter Tryd.func58, Tryd.ntmps58
        go_wp2_with (go_at_call 58; refine hcall.mono ?_; rintro e w1 ⟨rfl, hL1, hK1⟩; have A1 := Aside0.mk hL1; have A2 := Aside0.mk hK1; clear hL1 hK1; simp only [holeV])
        go_ret
        rw [HR.out]
        exact ⟨rfl, A1.out, A2.out⟩
      | some r =>
        obtain ⟨o, h'⟩ := r
        obtain ⟨f1, f2, f3⟩ := holeR_fit HJ d (s + 1) (o, h') (by omega) hr
        obtain ⟨t1, t2⟩ := two_div f3
        have HR := Aside0.mk (show holeR h s (d + 1) = some (o, hset h' s (some (o + 2 ^ s))) by unfold holeR; rw [ho]; simp only; rw [hr])
        rw [hr] at hcall
        have f1' : 0 ≤ o := f1
        have f2' : o ≤ 100000 := f2
        have hy0 : 0 ≤ o / 2 ^ (s + 1) := Int.ediv_nonneg f1' (by have := p2pos (s + 1); omega)
        have hy1 : o / 2 ^ (s + 1) ≤ o := Int.ediv_le_self _ f1'
        have hcall2 : Calls Tryd.prog 58 #[.pointer (some ⟨lb, 0, none⟩), .int .i64 ((s : Int) + 1)] w fun e w' => e = .returned (.int .i64 (o / 2 ^ (s + 1))) ∧ Lay w0 w' lb words ptrs tag choices pointer pv sv h' ∧ Kept1 w w' lb := hcall
        have T1 := Aside0.mk t1
        have T2 := Aside0.mk t2
        clear hcall f1 f3 f2 t1 t2
        generalize o / 2 ^ (s + 1) = y at *
        have cy : decide (y < 0) = false := decide_eq_false (by omega)
        have w1y : wrap64 (2 * y) = 2 * y := w64 (by omega) (by omega)
        have w2y : wrap64 (2 * y + 1) = 2 * y + 1 := w64 (by omega) (by omega)
        have w3y : wrap64 (wrap64 (2 * y) + 1) = 2 * y + 1 := by rw [w1y]; exact w2y
        clear hr ho e HJ ih hs HL hlt1 hy0 hy1 f1' f2'
        go_enter Tryd.func58, Tryd.ntmps58
        go_wp2_with (go_at_call 58; refine hcall2.mono ?_; rintro e w1 ⟨rfl, hL1, hK1⟩; obtain ⟨hc1, hf1⟩ := hL1.hole s (by have := HS.out; omega); have A1 := Aside0.mk hL1; have A2 := Aside0.mk hK1; clear hL1 hK1)
        go_ret
        rw [HR.out]
        exact ⟨by show _ = Ending.returned (.int .i64 (o / 2 ^ s)); rw [T1.out]; exact congrArg (fun x => Ending.returned (Value.int .i64 x)) w1y, A1.out.put s (by have := HS.out; omega) (some (o + 2 ^ s)) (2 * y + 1) T2.out, A2.out.set _ _⟩
    · obtain ⟨h1, h2, h3⟩ := HJ s (by omega) o ho
      have e : hcell h s = o / 2 ^ s := hcell_some ho
      have hp := div_pos2 h1 h3
      rw [← e] at hp
      have HR := Aside0.mk (show holeR h s (d + 1) = some (o, hset h s none) by unfold holeR; rw [ho])
      have HE := Aside0.mk e
      clear h1 h2 h3 e ho HJ ih hs HL hw1
      generalize hcell h s = x at *
      have cx : decide (0 < x) = true := decide_eq_true (by omega)
      clear hp
      go_enter Tryd.func58, Tryd.ntmps58
      go_wp2
      go_ret
      rw [HR.out]
      exact ⟨by rw [HE.out]; rfl, HLL.out.put s (by have := HS.out; omega) none 0 rfl, (Kept1.refl w lb).set _ _⟩
end Go.Proofs.YtjjcepnadjociaaDoor
