/- A text's node: the two packages' functions, and the laws' helpers on it, walked. -/
import Derived.Test.YtjiidjlmdibhdaaShelf
import Derived.Test.YtjiidjlmdibhdaaStubSame
import Derived.Test.YtjiidjlmdibhdaaPx0
namespace Go.Proofs.Ytjiidjlmdibhdaa
set_option linter.unusedVariables false
set_option linter.unusedSimpArgs false
open Go.RowKit Go.Proofs.Ytjiidjlmdibhdaa.P Go.Proofs.YtjiidjlmdibhdaaW.PrintWords Go.Proofs.YtjiidjlmdibhdaaW.PrintLast Go.Proofs.YtjiidjlmdibhdaaW.PrintMore
/-- Whether a text holds a byte 0. -/
def has0 (s : ByteArray) : Bool := decide (0 ≤ Lib.indexByte s.data.toList 0)
theorem indexByte_mem (l : List UInt8) : 0 ≤ Lib.indexByte l 0 ↔ (0 : UInt8) ∈ l := by
  induction l with
  | nil => simp [Lib.indexByte]
  | cons b l ih =>
    have hg := Lib.indexByte_ge l 0
    unfold Lib.indexByte
    by_cases hb : b = 0
    · rw [if_pos (beq_iff_eq.mpr hb)]
      simp [hb]
    · rw [if_neg (fun h => hb (beq_iff_eq.mp h))]
      by_cases hm : Lib.indexByte l 0 = -1
      · rw [if_pos (beq_iff_eq.mpr hm)]
        have : ¬ (0 : UInt8) ∈ l := fun h => by have := ih.mpr h; omega
        simp [this, Ne.symm hb]
      · rw [if_neg (fun h => hm (beq_iff_eq.mp h))]
        have : (0 : UInt8) ∈ l := ih.mp (by omega)
        simp only [List.mem_cons, this, or_true, iff_true]
        omega
/-- A text's node. -/
def textV (s : ByteArray) : S29 := if 100 < (s.size : Int) ∨ has0 s = true then z29 else ⟨2, s ++ ⟨#[0]⟩, [], 2, (s.size : Int) + 1, []⟩
theorem textV_rows (s : ByteArray) : (textV s).f2 = [] ∧ (textV s).f5 = [] := by
  unfold textV
  split <;> exact ⟨rfl, rfl⟩
abbrev textQ (s : ByteArray) (w : World) : Ending → World → Prop := fun e w' => e = .returned (.agg #[.int .i64 (textV s).f0, .string (textV s).f1, .slice none 0 0, .int .i64 (textV s).f3, .int .i64 (textV s).f4, .slice none 0 0]) ∧ Below w.heap.size w w'
abbrev put6 (W1 : World) (b : Nat) (k : Int) (d : ByteArray) (q c : Int) : World := (((((W1.setCell ⟨b, 0, none⟩ (.int .i64 k)).setCell ⟨b, 1, none⟩ (.string d)).setCell ⟨b, 2, none⟩ (.slice none 0 0)).setCell ⟨b, 3, none⟩ (.int .i64 q)).setCell ⟨b, 4, none⟩ (.int .i64 c)).setCell ⟨b, 5, none⟩ (.slice none 0 0)
theorem text_end (F : Func) (hF : F.results = #[ResultVar.cell 2 29]) (s : ByteArray) (w W1 : World) (h : W1.heap[w.heap.size]? = some (.cells #[.int .i64 0, .string ⟨#[]⟩, .slice none 0 0, .int .i64 0, .int .i64 0, .slice none 0 0] 29 (0, 0))) (hb : Below w.heap.size w W1) (k : Int) (d : ByteArray) (q c : Int) (ht : textV s = ⟨k, d, [], q, c, []⟩) (fr : Act) (hd : fr.defers = []) (hr : fr.tmps.getD 2 undef = .pointer (some ⟨w.heap.size, 0, none⟩)) :
    bodyPost Try.prog F (textQ s w) .ret fr (put6 W1 w.heap.size k d q c) := by
  have q0 := blk_put (cs' := #[.int .i64 k, .string ⟨#[]⟩, .slice none 0 0, .int .i64 0, .int .i64 0, .slice none 0 0]) h 0 (.int .i64 k) rfl
  have q1 := blk_put (cs' := #[.int .i64 k, .string d, .slice none 0 0, .int .i64 0, .int .i64 0, .slice none 0 0]) q0 1 (.string d) rfl
  have q2 := blk_put (cs' := #[.int .i64 k, .string d, .slice none 0 0, .int .i64 0, .int .i64 0, .slice none 0 0]) q1 2 (.slice none 0 0) rfl
  have q3 := blk_put (cs' := #[.int .i64 k, .string d, .slice none 0 0, .int .i64 q, .int .i64 0, .slice none 0 0]) q2 3 (.int .i64 q) rfl
  have q4 := blk_put (cs' := #[.int .i64 k, .string d, .slice none 0 0, .int .i64 q, .int .i64 c, .slice none 0 0]) q3 4 (.int .i64 c) rfl
  refine bodyPost_ret (results_cell_row hF _ _ w.heap.size 29 #[.int .i64 k, .string d, .slice none 0 0, .int .i64 q, .int .i64 c, .slice none 0 0] (0, 0) _ hr (blk_put q4 5 (.slice none 0 0) rfl) Try.underlying29 rfl (by kernel_rfl)) hd ⟨?_, below_set (below_set (below_set (below_set (below_set (below_set hb (Nat.le_refl _)) (Nat.le_refl _)) (Nat.le_refl _)) (Nat.le_refl _)) (Nat.le_refl _)) (Nat.le_refl _)⟩
  rw [ht]
set_option maxHeartbeats 4000000 in
set_option maxRecDepth 100000 in
theorem implText_calls (s : ByteArray) (w : World) (hs : s.size ≤ 140737488351232) :
    Calls Try.prog 14 #[.string s] w (textQ s w) := by
  have hcon := fun (W : World) => Try.strings_Contains_one s 0 W
  have b0 : (w.alloc (.cells #[.int .i64 0, .string ⟨#[]⟩, .slice none 0 0, .int .i64 0, .int .i64 0, .slice none 0 0] 29)).heap[w.heap.size]? = some (.cells #[.int .i64 0, .string ⟨#[]⟩, .slice none 0 0, .int .i64 0, .int .i64 0, .slice none 0 0] 29 (0, 0)) := by simpa using heap_alloc_new w _
  obtain ⟨W1, hW1⟩ : ∃ W1, W1 = w.alloc (.cells #[.int .i64 0, .string ⟨#[]⟩, .slice none 0 0, .int .i64 0, .int .i64 0, .slice none 0 0] 29) := ⟨_, rfl⟩
  have HW1 := Aside0.mk hW1
  have HB := Aside0.mk (show Below w.heap.size w W1 from by rw [hW1]; exact below_alloc (Below.refl _ _) _)
  rw [← hW1] at b0
  have B0 := Aside0.mk b0
  have x0 : W1.cell? ⟨w.heap.size, 0, none⟩ = some (.int .i64 0) := (blk_cell b0 0).trans rfl
  have x1 : W1.cell? ⟨w.heap.size, 1, none⟩ = some (.string ⟨#[]⟩) := (blk_cell b0 1).trans rfl
  have x2 : W1.cell? ⟨w.heap.size, 2, none⟩ = some (.slice none 0 0) := (blk_cell b0 2).trans rfl
  have x3 : W1.cell? ⟨w.heap.size, 3, none⟩ = some (.int .i64 0) := (blk_cell b0 3).trans rfl
  have x4 : W1.cell? ⟨w.heap.size, 4, none⟩ = some (.int .i64 0) := (blk_cell b0 4).trans rfl
  have x5 : W1.cell? ⟨w.heap.size, 5, none⟩ = some (.slice none 0 0) := (blk_cell b0 5).trans rfl
  have f0 : W1.frozen? ⟨w.heap.size, 0, none⟩ = false := blk_frozen b0 0
  have f1 : W1.frozen? ⟨w.heap.size, 1, none⟩ = false := blk_frozen b0 1
  have f2 : W1.frozen? ⟨w.heap.size, 2, none⟩ = false := blk_frozen b0 2
  have f3 : W1.frozen? ⟨w.heap.size, 3, none⟩ = false := blk_frozen b0 3
  have f4 : W1.frozen? ⟨w.heap.size, 4, none⟩ = false := blk_frozen b0 4
  have f5 : W1.frozen? ⟨w.heap.size, 5, none⟩ = false := blk_frozen b0 5
  have hz := Aside0.mk (show Below w.heap.size w W1 from HB.out)
  clear b0 hW1
  by_cases h1 : 100 < (s.size : Int)
  · have t1 := decide_eq_true h1
    have HT := Aside0.mk (show textV s = ⟨0, ⟨#[]⟩, [], 0, 0, []⟩ from by unfold textV; rw [if_pos (.inl h1)]; rfl)
    clear h1 hcon
    go_enter Try.func14, Try.ntmps14
    go_upto_region 1 with fail
    rw [← HW1.out]
    go_wp2
    exact text_end Try.f14 rfl s w W1 B0.out HB.out 0 ⟨#[]⟩ 0 0 HT.out _ rfl rfl
  · have t1 := decide_eq_false h1
    cases h2 : has0 s
    · have h3 : decide (0 ≤ Lib.indexByte s.data.toList 0) = false := h2
      have HT := Aside0.mk (show textV s = ⟨2, s ++ ⟨#[0]⟩, [], 2, (s.size : Int) + 1, []⟩ from by unfold textV; rw [if_neg (by rw [h2]; simp [h1])])
      clear h1 h2
      go_enter Try.func14, Try.ntmps14
      go_upto_region 1 with fail
      rw [← HW1.out]
      go_upto_region 3 with (first | (go_at_call 27; refine (hcon _).mono ?_; rintro e W2 ⟨rfl, hw⟩; have hw := hw.symm; subst hw; rw [h3]) | go_in)
      go_wp2
      exact text_end Try.f14 rfl s w W1 B0.out HB.out 2 (s ++ ⟨#[0]⟩) 2 ((s.size : Int) + 1) HT.out _ rfl rfl
    · have h3 : decide (0 ≤ Lib.indexByte s.data.toList 0) = true := h2
      have HT := Aside0.mk (show textV s = ⟨0, ⟨#[]⟩, [], 0, 0, []⟩ from by unfold textV; rw [if_pos (.inr h2)]; rfl)
      clear h1 h2
      go_enter Try.func14, Try.ntmps14
      go_upto_region 1 with fail
      rw [← HW1.out]
      go_upto_region 2 with (first | (go_at_call 27; refine (hcon _).mono ?_; rintro e W2 ⟨rfl, hw⟩; have hw := hw.symm; subst hw; rw [h3]) | go_in)
      go_wp2
      exact text_end Try.f14 rfl s w W1 B0.out HB.out 0 ⟨#[]⟩ 0 0 HT.out _ rfl rfl
theorem has0_at (s : ByteArray) (i : Nat) (hi : i < s.size) (h : ((s[i]'hi).toNat : Int) = 0) : has0 s = true := by
  unfold has0
  rw [decide_eq_true_iff, indexByte_mem]
  have hl : i < s.data.toList.length := by simpa using hi
  have : s.data.toList[i]'hl = 0 := by
    apply UInt8.toNat_inj.mp
    have e : (s.data.toList[i]'hl) = s[i]'hi := by simp [ByteArray.getElem_eq_getElem_data]
    rw [e]
    have : ((s[i]'hi).toNat : Int) = 0 := h
    simpa using (by omega : (s[i]'hi).toNat = 0)
  rw [← this]
  exact List.getElem_mem _
theorem has0_none (s : ByteArray) (h : ∀ (i : Nat) (hi : i < s.size), ((s[i]'hi).toNat : Int) ≠ 0) : has0 s = false := by
  unfold has0
  rw [decide_eq_false_iff_not, indexByte_mem]
  intro hm
  obtain ⟨i, hl, he⟩ := List.getElem_of_mem hm
  have hi : i < s.size := by simpa using hl
  refine h i hi ?_
  have e : (s.data.toList[i]'hl) = s[i]'hi := by simp [ByteArray.getElem_eq_getElem_data]
  rw [← e, he]
  rfl
theorem run_ix (s : ByteArray) (i : Nat) (hi : i < s.size) (W : World) : (Instr.index 9 (.string s) (.int .i64 (i : Int))).run Try.prog W = .ok (.int .u8 ((s[i]'hi).toNat : Int)) W := by
  rw [run_index_string W 9 s .i64 (i : Int) (by kernel_rfl), dif_pos ⟨by omega, by omega⟩]
  simp
set_option maxHeartbeats 4000000 in
set_option maxRecDepth 100000 in
theorem specText_calls (s : ByteArray) (w : World) (hs : s.size ≤ 140737488351232) :
    Calls Try.prog 13 #[.string s] w (textQ s w) := by
  have b0 : (w.alloc (.cells #[.int .i64 0, .string ⟨#[]⟩, .slice none 0 0, .int .i64 0, .int .i64 0, .slice none 0 0] 29)).heap[w.heap.size]? = some (.cells #[.int .i64 0, .string ⟨#[]⟩, .slice none 0 0, .int .i64 0, .int .i64 0, .slice none 0 0] 29 (0, 0)) := by simpa using heap_alloc_new w _
  obtain ⟨W1, hW1⟩ : ∃ W1, W1 = w.alloc (.cells #[.int .i64 0, .string ⟨#[]⟩, .slice none 0 0, .int .i64 0, .int .i64 0, .slice none 0 0] 29) := ⟨_, rfl⟩
  have HW1 := Aside0.mk hW1
  have HB := Aside0.mk (show Below w.heap.size w W1 from by rw [hW1]; exact below_alloc (Below.refl _ _) _)
  rw [← hW1] at b0
  have B0 := Aside0.mk b0
  have x0 : W1.cell? ⟨w.heap.size, 0, none⟩ = some (.int .i64 0) := (blk_cell b0 0).trans rfl
  have x1 : W1.cell? ⟨w.heap.size, 1, none⟩ = some (.string ⟨#[]⟩) := (blk_cell b0 1).trans rfl
  have x2 : W1.cell? ⟨w.heap.size, 2, none⟩ = some (.slice none 0 0) := (blk_cell b0 2).trans rfl
  have x3 : W1.cell? ⟨w.heap.size, 3, none⟩ = some (.int .i64 0) := (blk_cell b0 3).trans rfl
  have x4 : W1.cell? ⟨w.heap.size, 4, none⟩ = some (.int .i64 0) := (blk_cell b0 4).trans rfl
  have x5 : W1.cell? ⟨w.heap.size, 5, none⟩ = some (.slice none 0 0) := (blk_cell b0 5).trans rfl
  have f0 : W1.frozen? ⟨w.heap.size, 0, none⟩ = false := blk_frozen b0 0
  have f1 : W1.frozen? ⟨w.heap.size, 1, none⟩ = false := blk_frozen b0 1
  have f2 : W1.frozen? ⟨w.heap.size, 2, none⟩ = false := blk_frozen b0 2
  have f3 : W1.frozen? ⟨w.heap.size, 3, none⟩ = false := blk_frozen b0 3
  have f4 : W1.frozen? ⟨w.heap.size, 4, none⟩ = false := blk_frozen b0 4
  have f5 : W1.frozen? ⟨w.heap.size, 5, none⟩ = false := blk_frozen b0 5
  have hz := Aside0.mk (show Below w.heap.size w W1 from HB.out)
  clear b0 hW1
  go_enter Try.func13, Try.ntmps13
  go_upto_region 2 with fail
  rw [← HW1.out]
  go_loopg [3] s.size (fun gg s3 wr => ∃ i : Nat, s3 = .int .i64 i ∧ Aside0 (i ≤ s.size ∧ s.size - i ≤ gg) ∧ Aside0 (wr = W1) ∧ Aside0 (∀ (j : Nat) (hj : j < s.size), j < i → ((s[j]'hj).toNat : Int) ≠ 0))
  case atStart => exact ⟨0, rfl, ⟨Nat.zero_le _, by omega⟩, ⟨rfl⟩, ⟨fun j hj h => absurd h (Nat.not_lt_zero _)⟩⟩
  case round =>
    obtain ⟨i, rfl, HK, ⟨rfl⟩, HN⟩ := hrel
    by_cases hlt : i < s.size
    · have c1 : (i : Int) < (s.size : Int) := by omega
      have hix := fun W => run_ix s i hlt W
      have hw := w64 (n := (i : Int) + 1) (by omega) (by omega)
      by_cases hb : ((s[i]'hlt).toNat : Int) = 0
      · have HT := Aside0.mk (show textV s = ⟨0, ⟨#[]⟩, [], 0, 0, []⟩ from by unfold textV; rw [if_pos (.inr (has0_at s i hlt hb))]; rfl)
        rw [hb] at hix
        clear hb
        go_wp2
        exact text_end Try.f13 rfl s w wr B0.out HB.out 0 ⟨#[]⟩ 0 0 HT.out _ rfl rfl
      · have t2 : decide (((s[i]'hlt).toNat : Int) = 0) = false := decide_eq_false hb
        have hN : ∀ (j : Nat) (hj : j < s.size), j < i + 1 → ((s[j]'hj).toNat : Int) ≠ 0 := fun j hj h => by
          rcases Nat.lt_or_ge j i with h' | h'
          · exact HN.out j hj h'
          · obtain rfl : j = i := by omega
            exact hb
        have HN2 := Aside0.mk hN
        generalize ((s[i]'hlt).toNat : Int) = b at *
        clear hN
        go_wp2
        go_roundg (s.size - (i + 1))
        case measure => have := HK.out; omega
        case rel => exact ⟨i + 1, by first | go_num | rw [hw]; go_num, ⟨by omega, by omega⟩, ⟨rfl⟩, HN2⟩
    · have c1 : ¬ (i : Int) < (s.size : Int) := by omega
      have hno := has0_none s (fun j hj => HN.out j hj (by omega))
      by_cases h1 : 100 < (s.size : Int)
      · have HT := Aside0.mk (show textV s = ⟨0, ⟨#[]⟩, [], 0, 0, []⟩ from by unfold textV; rw [if_pos (.inl h1)]; rfl)
        clear hno HN
        go_wp2
        exact text_end Try.f13 rfl s w wr B0.out HB.out 0 ⟨#[]⟩ 0 0 HT.out _ rfl rfl
      · have HT := Aside0.mk (show textV s = ⟨2, s ++ ⟨#[0]⟩, [], 2, (s.size : Int) + 1, []⟩ from by unfold textV; rw [if_neg (by rw [hno]; simp [h1])])
        clear hno HN
        go_wp2
        exact text_end Try.f13 rfl s w wr B0.out HB.out 2 (s ++ ⟨#[0]⟩) 2 ((s.size : Int) + 1) HT.out _ rfl rfl
end Go.Proofs.Ytjiidjlmdibhdaa
