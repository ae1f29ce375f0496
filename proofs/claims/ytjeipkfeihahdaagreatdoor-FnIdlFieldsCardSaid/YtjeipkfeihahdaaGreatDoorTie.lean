/-
  DERIVED. GIVEN WITH THE SEED: THE PROGRAM's TIES (one call each: nine closed facts by the kernel) AND EACH ROW's TIE, after the 31st guide's Derived/Test/Toyas{Tie, Card}.lean. No idea stands in it: it is a product of the set-up. Laid BY PROGRAM, IN A SANDBOX (cutbox-door.mjs). By AI agents, Wed Nov 11 2026. No macro, syntax, notation, axiom, sorry.
-/
import Derived.Test.YtjeipkfeihahdaaGreatDoorRows
import Derived.LaidByTextLater
import Derived.SevenTiedAt
import Derived.LaidSub
import Derived.LaidOnce
namespace Go.Proofs.YtjeipkfeihahdaaGreatDoor
open Go
set_option maxRecDepth 100000
theorem seatTie1 : Tryz.prog.laidByTextLater [("loop.example/quoin/impl.sizeBits", Rows.laid_loop_example_quoin_impl_sizeBits), ("loop.example/quoin/impl.baseSizes", Rows.laid_loop_example_quoin_impl_baseSizes)] [.data, .mapped] true :=
  Program.laidByTextLater_by_one 49 8 8 (by kernel_rfl) (by kernel_rfl) (by kernel_rfl) (by kernel_rfl) (by kernel_rfl) (by kernel_rfl) (fun _ _ => by kernel_rfl)
theorem noOwnUnsafe : Tryz.pinned.checked.prog.headLifts.contains "ownunsafe" = false := by kernel_rfl
theorem tie : Tryz.prog.laidByTextLater [("loop.example/quoin/impl.sizeBits", Rows.laid_loop_example_quoin_impl_sizeBits), ("loop.example/quoin/impl.baseSizes", Rows.laid_loop_example_quoin_impl_baseSizes)] [.data, .mapped] true :=
  Program.laidByTextLater.sub seatTie1 ["loop.example/quoin/impl.sizeBits", "loop.example/quoin/impl.baseSizes"] (by kernel_rfl) (by kernel_rfl)
theorem fnIdlLayout_row_tie : Rows.fnIdlLayoutRow.laidByTextAt .later Tryz.pinned [.data, .mapped] true :=
  OpenClaim.laidByTextAt_later rfl rfl tie noOwnUnsafe
theorem fnIdlFields_row_tie : Rows.fnIdlFieldsRow.laidByTextAt .later Tryz.pinned [.data, .mapped] true :=
  OpenClaim.laidByTextAt_later rfl rfl tie noOwnUnsafe
theorem fnIdlLayoutUpto_row_tie : Rows.fnIdlLayoutUptoRow.laidByTextAt .later Tryz.pinned [.data, .mapped] true :=
  OpenClaim.laidByTextAt_later rfl rfl tie noOwnUnsafe
theorem fnIdlFieldsUpto_row_tie : Rows.fnIdlFieldsUptoRow.laidByTextAt .later Tryz.pinned [.data, .mapped] true :=
  OpenClaim.laidByTextAt_later rfl rfl tie noOwnUnsafe
end Go.Proofs.YtjeipkfeihahdaaGreatDoor
