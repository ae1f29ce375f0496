/- The program's text node is the reference's: the law, walked. -/
import Derived.Test.YtjiidjlmdibhdaaStubMark
namespace Go.Proofs.Ytjiidjlmdibhdaa
set_option linter.unusedVariables false
set_option linter.unusedSimpArgs false
open Go.RowKit Go.Proofs.Ytjiidjlmdibhdaa.P Go.Proofs.YtjiidjlmdibhdaaW.PrintWords Go.Proofs.YtjiidjlmdibhdaaW.PrintLast Go.Proofs.YtjiidjlmdibhdaaW.PrintMore
/-- Six cells of a node without rows. -/
abbrev tcs (k : Int) (d : ByteArray) (q c : Int) : Array Value := #[.int .i64 k, .string d, .slice none 0 0, .int .i64 q, .int .i64 c, .slice none 0 0]
theorem put6_blk {W1 : World} {b : Nat} (h : W1.heap[b]? = some (.cells (tcs 0 ⟨#[]⟩ 0 0) 29 (0, 0))) (k : Int) (d : ByteArray) (q c : Int) : (put6 W1 b k d q c).heap[b]? = some (.cells (tcs k d q c) 29 (0, 0)) := by
  have q0 := blk_put (cs' := #[.int .i64 k, .string ⟨#[]⟩, .slice none 0 0, .int .i64 0, .int .i64 0, .slice none 0 0]) h 0 (.int .i64 k) rfl
  have q1 := blk_put (cs' := #[.int .i64 k, .string d, .slice none 0 0, .int .i64 0, .int .i64 0, .slice none 0 0]) q0 1 (.string d) rfl
  have q2 := blk_put (cs' := #[.int .i64 k, .string d, .slice none 0 0, .int .i64 0, .int .i64 0, .slice none 0 0]) q1 2 (.slice none 0 0) rfl
  have q3 := blk_put (cs' := #[.int .i64 k, .string d, .slice none 0 0, .int .i64 q, .int .i64 0, .slice none 0 0]) q2 3 (.int .i64 q) rfl
  have q4 := blk_put (cs' := #[.int .i64 k, .string d, .slice none 0 0, .int .i64 q, .int .i64 c, .slice none 0 0]) q3 4 (.int .i64 c) rfl
  exact blk_put q4 5 (.slice none 0 0) rfl
theorem put6_below {w W1 : World} {b : Nat} (hb : Below w.heap.size w W1) (h : w.heap.size ≤ b) (k : Int) (d : ByteArray) (q c : Int) : Below w.heap.size w (put6 W1 b k d q c) :=
  below_set (below_set (below_set (below_set (below_set (below_set hb h) h) h) h) h) h
theorem txt_cells {W : World} {b : Nat} {k : Int} {d : ByteArray} {q c : Int} {t : TypeId} (h : W.heap[b]? = some (.cells (tcs k d q c) t (0, 0))) : W.cell? ⟨b, 0, none⟩ = some (.int .i64 k) ∧ W.cell? ⟨b, 1, none⟩ = some (.string d) ∧ W.cell? ⟨b, 2, none⟩ = some (.slice none 0 0) ∧ W.cell? ⟨b, 3, none⟩ = some (.int .i64 q) ∧ W.cell? ⟨b, 4, none⟩ = some (.int .i64 c) ∧ W.cell? ⟨b, 5, none⟩ = some (.slice none 0 0) :=
  ⟨(blk_cell h 0).trans rfl, (blk_cell h 1).trans rfl, (blk_cell h 2).trans rfl, (blk_cell h 3).trans rfl, (blk_cell h 4).trans rfl, (blk_cell h 5).trans rfl⟩
theorem eqT_calls (k : Int) (d : ByteArray) (q c : Int) (w : World) :
    Calls Try.prog 10 #[.agg (tcs k d q c), .agg (tcs k d q c)] w fun e w' => e = .returned (.bool true) ∧ Below w.heap.size w w' := by
  have h0 : Kd.C k29 w none ([] : List S29).length [] := Kd.C_nil _ _
  have := eqNode_all ⟨k, d, [], q, c, []⟩ ⟨k, d, [], q, c, []⟩ none none none none 0 0 0 0 w h0 (Nat.le_refl _) h0 (Nat.le_refl _) h0 (Nat.le_refl _) h0 (Nat.le_refl _)
  rw [sameV_refl] at this
  exact this
set_option maxHeartbeats 8000000 in
set_option maxRecDepth 100000 in
theorem exactText_calls (s : ByteArray) (w : World) :
    Calls Try.prog 5 #[.string s] w fun e w' => e = .returned (.bool true) ∧ Below w.heap.size w w' := by
  by_cases hs : 1048576 < (s.size : Int)
  · go_enter Try.func5, Try.ntmps5
    go_wp2
    go_ret
    exact ⟨rfl, Below.refl _ _⟩
  · have hi := fun W => implText_calls s W (by omega)
    have hp := fun W => specText_calls s W (by omega)
    have t0 := decide_eq_false hs
    unfold textQ at hi hp
    obtain ⟨e2, e5⟩ := textV_rows s
    generalize textV s = v at *
    obtain ⟨k, d, _, q, c, _⟩ := v
    obtain rfl : _ = [] := e2
    obtain rfl : _ = [] := e5
    simp only at hi hp
    clear hs
    have heq := fun W => eqT_calls k d q c W
    have hmk := fun W => mark_calls k q c d 1 W
    have hhd := fun W => held_calls k q c d 1 (by decide) W
    go_enter Try.func5, Try.ntmps5
    go_upto_region 4 with (first
      | (go_at_call 13; refine (hp _).mono ?_; rintro e w1 ⟨rfl, hb1⟩)
      | go_in)
    obtain ⟨W3, hW3⟩ : ∃ W3, W3 = w1.alloc (.cells (tcs k d q c) 29) := ⟨_, rfl⟩
    rw [← hW3]
    have HB3 := Aside0.mk (show Below w.heap.size w W3 from by rw [hW3]; exact below_alloc hb1 _)
    have P3 := Aside0.mk (fun (W : World) (hb : Below W3.heap.size W3 W) => txt_cells ((hb.block w1.heap.size (by rw [hW3]; simp)).trans (show W3.heap[w1.heap.size]? = some (.cells (tcs k d q c) 29 (0, 0)) from by rw [hW3]; simpa using heap_alloc_new w1 _)))
    generalize w1.heap.size = g1 at *
    clear hW3 hb1
    go_upto_region 5 with (first
      | (go_at_call 14; refine (hi _).mono ?_; rintro e w2 ⟨rfl, hb2⟩)
      | go_in)
    obtain ⟨W4, hW4⟩ : ∃ W4, W4 = w2.alloc (.cells (tcs k d q c) 29) := ⟨_, rfl⟩
    rw [← hW4]
    have h4 := Aside0.mk (show Below W3.heap.size W3 W4 from by rw [hW4]; exact below_alloc hb2 _)
    have HB4 := Aside0.mk (below_step HB3.out h4.out)
    have P4 := Aside0.mk (fun (W : World) (hb : Below W4.heap.size W4 W) => And.intro (P3.out W (h4.out.trans (hb.mono h4.out.size))) (txt_cells ((hb.block w2.heap.size (by rw [hW4]; simp)).trans (show W4.heap[w2.heap.size]? = some (.cells (tcs k d q c) 29 (0, 0)) from by rw [hW4]; simpa using heap_alloc_new w2 _))))
    generalize w2.heap.size = g2 at *
    clear hW4 hb2 P3 h4
    obtain ⟨⟨x0, x1, x2, x3, x4, x5⟩, y0, y1, y2, y3, y4, y5⟩ := P4.out W4 (Below.refl _ _)
    go_upto_region 8 with (first
      | (go_at_call 10; refine (heq _).mono ?_; rintro e w5 ⟨rfl, hb5⟩)
      | go_in)
    have H5 := Aside0.mk hb5
    clear hb5 x0 x1 x2 x3 x4 x5 y0 y1 y2 y3 y4 y5
    obtain ⟨⟨x0, x1, x2, x3, x4, x5⟩, y0, y1, y2, y3, y4, y5⟩ := P4.out w5 H5.out
    go_upto_region 9 with (first
      | (go_at_call 15; refine (hmk _).mono ?_; rintro e w6 ⟨rfl, hb6⟩)
      | go_in)
    have H6 := Aside0.mk (below_step H5.out hb6)
    clear hb6 x0 x1 x2 x3 x4 x5 y0 y1 y2 y3 y4 y5 H5
    obtain ⟨⟨x0, x1, x2, x3, x4, x5⟩, y0, y1, y2, y3, y4, y5⟩ := P4.out w6 H6.out
    go_upto_region 15 with (first
      | (go_at_call 16; refine (hhd _).mono ?_; rintro e w7 ⟨rfl, hb7⟩)
      | go_in)
    have H7 := Aside0.mk (below_step H6.out hb7)
    clear hb7 x0 x1 x2 x3 x4 x5 y0 y1 y2 y3 y4 y5 H6
    go_upto_region 16 with (first
      | (go_at_call 14; refine (hi _).mono ?_; rintro e w8 ⟨rfl, hb8⟩)
      | go_in)
    obtain ⟨W9, hW9⟩ : ∃ W9, W9 = w8.alloc (.cells (tcs k d q c) 29) := ⟨_, rfl⟩
    rw [← hW9]
    have h9 := Aside0.mk (show Below w7.heap.size w7 W9 from by rw [hW9]; exact below_alloc hb8 _)
    have HB9 := Aside0.mk (below_step HB4.out (below_step H7.out h9.out))
    have P9 := Aside0.mk (fun (W : World) (hb : Below W9.heap.size W9 W) => And.intro (P4.out W (below_step (below_step H7.out h9.out) hb)) (txt_cells ((hb.block w8.heap.size (by rw [hW9]; simp)).trans (show W9.heap[w8.heap.size]? = some (.cells (tcs k d q c) 29 (0, 0)) from by rw [hW9]; simpa using heap_alloc_new w8 _))))
    generalize w8.heap.size = g3 at *
    clear hW9 hb8 P4 h9 H7
    obtain ⟨⟨⟨x0, x1, x2, x3, x4, x5⟩, y0, y1, y2, y3, y4, y5⟩, z0, z1, z2, z3, z4, z5⟩ := P9.out W9 (Below.refl _ _)
    go_upto_region 18 with (first
      | (go_at_call 10; refine (heq _).mono ?_; rintro e w10 ⟨rfl, hb10⟩)
      | go_in)
    have H10 := Aside0.mk hb10
    clear hb10 x0 x1 x2 x3 x4 x5 y0 y1 y2 y3 y4 y5 z0 z1 z2 z3 z4 z5
    obtain ⟨⟨⟨x0, x1, x2, x3, x4, x5⟩, y0, y1, y2, y3, y4, y5⟩, z0, z1, z2, z3, z4, z5⟩ := P9.out w10 H10.out
    go_wp2_with (go_at_call 16; refine (hhd _).mono ?_; rintro e w11 ⟨rfl, hb11⟩)
    go_ret
    exact ⟨rfl, below_step HB9.out (below_step H10.out hb11)⟩
end Go.Proofs.Ytjiidjlmdibhdaa
