/- The marks and the counts of a node without rows leave their number as it was: walked. -/
import Derived.Test.YtjiidjlmdibhdaaStubText
namespace Go.Proofs.Ytjiidjlmdibhdaa
set_option linter.unusedVariables false
set_option linter.unusedSimpArgs false
open Go.RowKit Go.Proofs.Ytjiidjlmdibhdaa.P Go.Proofs.YtjiidjlmdibhdaaW.PrintWords Go.Proofs.YtjiidjlmdibhdaaW.PrintLast Go.Proofs.YtjiidjlmdibhdaaW.PrintMore
set_option maxHeartbeats 4000000 in
set_option maxRecDepth 100000 in
theorem markS_calls (k : Int) (w : World) :
    Calls Try.prog 28 #[.slice none 0 0, .int .i64 k] w fun e w' => e = .returned (.int .i64 k) ∧ w' = w := by
  go_enter Try.func28, Try.ntmps28
  go_wp2
  go_loopg [1, 5] 1 (fun gg s1 s5 wr => s1 = .int .i64 k ∧ s5 = .int .i64 0 ∧ Aside0 (wr = w))
  case atStart => exact ⟨rfl, rfl, ⟨rfl⟩⟩
  case round =>
    obtain ⟨rfl, rfl, ⟨rfl⟩⟩ := hrel
    go_wp2
    go_ret
    exact ⟨rfl, rfl⟩
set_option maxHeartbeats 4000000 in
set_option maxRecDepth 100000 in
theorem heldS_calls (k : Int) (w : World) :
    Calls Try.prog 29 #[.slice none 0 0, .int .i64 k] w fun e w' => e = .returned (.int .i64 k) ∧ w' = w := by
  go_enter Try.func29, Try.ntmps29
  go_wp2
  go_loopg [1, 5] 1 (fun gg s1 s5 wr => s1 = .int .i64 k ∧ s5 = .int .i64 0 ∧ Aside0 (wr = w))
  case atStart => exact ⟨rfl, rfl, ⟨rfl⟩⟩
  case round =>
    obtain ⟨rfl, rfl, ⟨rfl⟩⟩ := hrel
    go_wp2
    go_ret
    exact ⟨rfl, rfl⟩
set_option maxHeartbeats 4000000 in
set_option maxRecDepth 100000 in
theorem mark_calls (a c d : Int) (b : ByteArray) (k : Int) (w : World) :
    Calls Try.prog 15 #[.agg #[.int .i64 a, .string b, .slice none 0 0, .int .i64 c, .int .i64 d, .slice none 0 0], .int .i64 k] w fun e w' => e = .returned (.int .i64 k) ∧ Below w.heap.size w w' := by
  have hc := fun W => markS_calls k W
  have hB := Aside0.mk (below_alloc (Below.refl w.heap.size w) (.cells #[.int .i64 a, .string b, .slice none 0 0, .int .i64 c, .int .i64 d, .slice none 0 0] 29))
  go_enter Try.func15, Try.ntmps15
  go_upto_region 1 with fail
  go_wp2_with (go_at_call 28; refine (hc _).mono ?_; rintro e W2 ⟨rfl, hw⟩; have hw := hw.symm; subst hw)
  go_ret
  exact ⟨rfl, hB.out⟩
set_option maxHeartbeats 4000000 in
set_option maxRecDepth 100000 in
theorem held_calls (a c d : Int) (b : ByteArray) (k : Int) (hk : 0 ≤ k) (w : World) :
    Calls Try.prog 16 #[.agg #[.int .i64 a, .string b, .slice none 0 0, .int .i64 c, .int .i64 d, .slice none 0 0], .int .i64 k] w fun e w' => e = .returned (.int .i64 k) ∧ Below w.heap.size w w' := by
  have hc := fun W => heldS_calls k W
  have t1 : decide (k < 0) = false := decide_eq_false (by omega)
  have hB := Aside0.mk (below_alloc (Below.refl w.heap.size w) (.cells #[.int .i64 a, .string b, .slice none 0 0, .int .i64 c, .int .i64 d, .slice none 0 0] 29))
  go_enter Try.func16, Try.ntmps16
  go_upto_region 1 with fail
  go_wp2_with (go_at_call 29; refine (hc _).mono ?_; rintro e W2 ⟨rfl, hw⟩; have hw := hw.symm; subst hw)
  go_ret
  exact ⟨rfl, hB.out⟩
end Go.Proofs.Ytjiidjlmdibhdaa
