/- The door's own heap meets the row's condition; out of the condition the table's cells and the map's answers. -/
import Derived.Test.YtjeipkfeihahdaaGreatDoorRows
import Derived.Test.YtjeipkfeihahdaaGreatDoorStubSizesM
import Derived.ProofKit
import Derived.LaidMore
import Derived.OpenShut
import Derived.OpenVars
import Derived.Stop.Joined
import Derived.Lib.LaidTab
namespace Go.Proofs.YtjeipkfeihahdaaGreatDoor
open Go.ChangeShapes Go.WideShapes Go.ChangeAt Go.WideMaps Go.WideElems Go.RowKit
abbrev laidL : List (String × DataW Unit) := [("loop.example/quoin/impl.sizeBits", Rows.laid_loop_example_quoin_impl_sizeBits), ("loop.example/quoin/impl.baseSizes", Rows.laid_loop_example_quoin_impl_baseSizes)]
theorem door_met (os : Os) (args : Array Value) : laidMetH Tryz.prog laidL ((World.doorLaid Tryz.prog 49 os).forCall (fun _ _ => 0) ⟨#[], args, []⟩).memory :=
  laidMetH_of_parts3 (fuel := 8) (laidMet_of_run' 8 (by kernel_rfl) (by kernel_rfl)) (by kernel_rfl) (by kernel_rfl)
theorem gSizes : Tryz.prog.globalNamed "loop.example/quoin/impl.sizeBits" = some 0 := by kernel_rfl
theorem gBases : Tryz.prog.globalNamed "loop.example/quoin/impl.baseSizes" = some 1 := by kernel_rfl
theorem tBases : (Tryz.prog.globals[1]?).map (·.type) = some 105 := by kernel_rfl
/-- What the map answers, by its datum. -/
theorem base_at (L : List UInt8) (zd : DataW Unit) : (Rows.laid_loop_example_quoin_impl_baseSizes (H := Unit)).atKey (.string L) zd = if baseSize ⟨⟨L⟩⟩ = 0 then zd else .lit (.int .i64 (baseSize ⟨⟨L⟩⟩)) := by
  by_cases h1 : L = [66, 111, 111, 108]
  · subst h1; rfl
  by_cases h2 : L = [85, 56]
  · subst h2; rfl
  by_cases h3 : L = [85, 49, 54]
  · subst h3; rfl
  by_cases h4 : L = [85, 51, 50]
  · subst h4; rfl
  by_cases h5 : L = [73, 54, 52]
  · subst h5; rfl
  by_cases h6 : L = [84, 101, 120, 116]
  · subst h6; rfl
  have e0 : baseSize ⟨⟨L⟩⟩ = 0 := by
    unfold baseSize
    split <;> first | rfl | (exfalso; rename_i h; first | exact h1 h | exact h2 h | exact h3 h | exact h4 h | exact h5 h | exact h6 h)
  rw [if_pos e0]
  have f1 := beq_false_of_ne (Ne.symm h1)
  have f2 := beq_false_of_ne (Ne.symm h2)
  have f3 := beq_false_of_ne (Ne.symm h3)
  have f4 := beq_false_of_ne (Ne.symm h4)
  have f5 := beq_false_of_ne (Ne.symm h5)
  have f6 := beq_false_of_ne (Ne.symm h6)
  simp only [Rows.laid_loop_example_quoin_impl_baseSizes, DataW.atKey, List.find?, Lit.sameKey, f1, f2, f3, f4, f5, f6]
set_option maxRecDepth 100000 in
theorem sb_of_laid {W : World} (h : laidMetH Tryz.prog laidL W) : SBw W := by
  rw [MakeChecks.laidMetH_plain _ _ _ (by kernel_rfl)] at h
  have h1 : Lib.TabIs Tryz.prog W "loop.example/quoin/impl.sizeBits" .i64 sizeTab :=
    Lib.tabIs_of_head (zs := sizeTab) gSizes (by kernel_rfl) Tryz.underlying84 Tryz.underlying3 (by kernel_rfl) (by kernel_rfl) h
  refine ⟨fun i hi => h1.cell gSizes i hi, ?_⟩
  obtain ⟨ps, ⟨g0, t0, cs0, f0, p0, q0, hg0, ht0, hv0, hd0, ⟨g1, t1, cs1, f1, p1, q1, hg1, ht1, hv1, hd1, _, _⟩, _⟩, _, _⟩ := h
  obtain rfl := Option.some.inj (gBases.symm.trans hg1)
  obtain rfl := Option.some.inj (tBases.symm.trans ht1)
  rcases open_map Tryz.underlying105 hd1 with ⟨_, hx⟩ | ⟨bm, es, clock, m, rfl, hcs, hb, _, F, hx⟩
  · simp [Rows.laid_loop_example_quoin_impl_baseSizes] at hx
  simp only [Prod.mk.injEq] at hx
  have hcell : W.cell? ⟨1, 0, none⟩ = some (.map (some bm)) := by
    have := World.var?_cell hg1 hv1 0
    rw [Array.eq_one_of_toList hcs] at this
    simpa using this
  have hlt : 1 < W.heap.size := by
    rcases Nat.lt_or_ge 1 W.heap.size with h | h
    · exact h
    · exfalso
      have e : W.heap[1]? = none := Array.getElem?_eq_none h
      simp [World.cell?, e] at hcell
  refine ⟨bm, hcell, hlt, fun W' hW' s hs => ?_⟩
  have hblt : bm < W.heap.size := by
    rcases Nat.lt_or_ge bm W.heap.size with h | h
    · exact h
    · exfalso
      have e : W.heap[bm]? = none := Array.getElem?_eq_none h
      rw [e] at hb
      cases hb
  have hb' : W'.heap[bm]? = some (.map es clock) := (hW'.block bm hblt).trans hb
  have zero : (zeroValue 3).run Tryz.prog W' = .ok (.int .i64 0) W' := by kernel_rfl
  have law : KeyLaw Tryz.prog 9 := string_law Tryz.underlying9
  have hz := base_at s.data.toList
  have es' : (⟨⟨s.data.toList⟩⟩ : ByteArray) = s := by cases s; rfl
  rw [es'] at hz
  rcases fit_lookup_ok (w := W') law Tryz.underlying105 zero hb' F (keyOf_string_mk (s := s) Tryz.underlying9 hs) with ⟨hrun, hat⟩ | ⟨v, y, hrun, hRv, hat, _⟩
  · have e0 : baseSize s = 0 := by
      by_cases h0 : baseSize s = 0
      · exact h0
      · exfalso
        have := hat .nil
        rw [← hx.1] at this
        have e2 := hz .nil
        rw [if_neg h0] at e2
        cases e2.symm.trans this
    rw [e0]
    exact hrun
  · obtain ⟨r, rfl, rfl, _⟩ := elemAt_int Tryz.underlying3 hRv
    have := hat .nil
    rw [← hx.1] at this
    have e2 := hz .nil
    by_cases h0 : baseSize s = 0
    · rw [if_pos h0] at e2
      cases e2.symm.trans this
    · rw [if_neg h0] at e2
      have e3 := e2.symm.trans this
      injection e3 with e3
      injection e3 with _ e3
      rw [← e3] at hrun
      have e4 : (baseSize s != 0) = true := by simp [h0]
      rw [e4]
      exact hrun
end Go.Proofs.YtjeipkfeihahdaaGreatDoor
