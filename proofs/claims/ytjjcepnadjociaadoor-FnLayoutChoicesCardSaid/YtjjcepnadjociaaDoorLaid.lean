/- The door's own heap meets the row's condition; out of the condition the table's cells. -/
import Derived.Test.YtjjcepnadjociaaDoorRows
import Derived.Test.YtjjcepnadjociaaDoorStubSizes
import Derived.ProofKit
import Derived.LaidMore
import Derived.OpenShut
import Derived.OpenVars
import Derived.Stop.Joined
import Derived.Lib.LaidTab
namespace Go.Proofs.YtjjcepnadjociaaDoor
open Go.RowKit
abbrev laidL : List (String × DataW Unit) := [("loop.example/quoin/impl.sizeBits", Rows.laid_loop_example_quoin_impl_sizeBits)]
theorem door_met (os : Os) (args : Array Value) : laidMetH Tryd.prog laidL ((World.doorLaid Tryd.prog 14 os).forCall (fun _ _ => 0) ⟨#[], args, []⟩).memory :=
  laidMetH_of_parts3 (fuel := 8) (laidMet_of_run' 8 (by kernel_rfl) (by kernel_rfl)) (by kernel_rfl) (by kernel_rfl)
theorem gSizes : Tryd.prog.globalNamed "loop.example/quoin/impl.sizeBits" = some 0 := by kernel_rfl
theorem sb_of_laid {W : World} (h : laidMetH Tryd.prog laidL W) : SBw W := by
  rw [MakeChecks.laidMetH_plain _ _ _ (by kernel_rfl)] at h
  have h1 : Lib.TabIs Tryd.prog W "loop.example/quoin/impl.sizeBits" .i64 sizeTab :=
    Lib.tabIs_of_head (zs := sizeTab) gSizes (by kernel_rfl) Tryd.underlying62 Tryd.underlying3 (by kernel_rfl) (by kernel_rfl) h
  exact ⟨fun i hi => h1.cell gSizes i hi⟩
end Go.Proofs.YtjjcepnadjociaaDoor
