/- slices.Sorted(slices.Values(list)) at texts, and slices.Compact of it: as long as the list just if no text is there twice. -/
import Derived.Lib.OwnBridge
import Derived.Sort.OwnSorted
import Derived.Test.YtjeipkfeihahdaaGreatDoorShelf
import Derived.Test.YtjeipkfeihahdaaGreatDoorLibSD
import Derived.Test.YtjeipkfeihahdaaGreatDoorV2
namespace Go.Proofs.YtjeipkfeihahdaaGreatDoor
open Go.RowKit Go.Shelf Go.Sort Go.Proofs.YtjeipkfeihahdaaGreatDoorW.PrintWords Go.Proofs.YtjeipkfeihahdaaGreatDoorW.PrintLast Go.Proofs.YtjeipkfeihahdaaGreatDoorW.PrintMore
set_option linter.unusedVariables false
set_option linter.unusedSimpArgs false
def sortedBytes (zs : List ByteArray) : List (List UInt8) := (zs.map (·.data.toList)).mergeSort fun x y => decide (x ≤ y)
theorem sortedBytes_length (zs : List ByteArray) : (sortedBytes zs).length = zs.length := by unfold sortedBytes; simp
theorem collectStr_calls (Bs n₀ : Nat) (sv : Value) (zs : List ByteArray) (hreach : zs.length ≤ 1000000) (w : World) (hBs : Bs < w.heap.size) (hn₀ : n₀ ≤ w.heap.size) (hc0 : w.cell? ⟨Bs, 0, none⟩ = some sv) (hI : Strs n₀ w sv zs) :
  Calls Tryz.prog 78 #[.slice none 0 0, .func (.func 67) #[] #[.pointer (some ⟨Bs, 0, none⟩)]] w fun e W' => ∃ v, e = .returned v ∧ W'.ownsRow w.heap.size 9 1 v zs.length (zs.map Value.string) ∧ Below w.heap.size w W' :=
 callsIn_wide.1 (appStr_in Fence.wide 3 trivial trivial rfl (Nat.le_refl _) Bs n₀ sv zs hreach w hBs hn₀ hc0 hI)
set_option maxHeartbeats 1000000 in
theorem sortedStr_calls (Bs n₀ : Nat) (sv : Value) (zs : List ByteArray) (hpos : 0 < zs.length) (hreach : zs.length ≤ 1000000) (w : World) (hBs : Bs < w.heap.size) (hn₀ : n₀ ≤ w.heap.size) (hc0 : w.cell? ⟨Bs, 0, none⟩ = some sv) (hI : Strs n₀ w sv zs) :
  Calls Tryz.prog 42 #[.func (.func 67) #[] #[.pointer (some ⟨Bs, 0, none⟩)]] w fun e w' => ∃ g cap, e = .returned (.slice (some ⟨g, 0, none⟩) zs.length cap) ∧ zs.length ≤ cap ∧ w.heap.size ≤ g ∧ g < w'.heap.size ∧
   Holds encStr w' g 0 (sortedBytes zs).toArray ∧ Below w.heap.size w w' := by
 have hcol := collectStr_calls Bs n₀ sv zs hreach w hBs hn₀ hc0 hI
 have hcol2 : Calls Tryz.prog 65 #[.func (.func 67) #[] #[.pointer (some ⟨Bs, 0, none⟩)]] w fun e W' => ∃ v, e = .returned v ∧ W'.ownsRow w.heap.size 9 1 v zs.length (zs.map Value.string) ∧ Below w.heap.size w W' := by
  go_enter Tryz.func65, Tryz.ntmps65
  go_wp2_with (go_at_call 78; refine hcol.mono ?_; rintro e W ⟨v, rfl, hrow, hb⟩)
  go_ret
  exact ⟨v, rfl, hrow, hb⟩
 clear hcol
 go_enter Tryz.func42, Tryz.ntmps42
 go_upto_region 2 with (go_at_call 65; refine hcol2.mono ?_; rintro e W ⟨v, rfl, hrow, hb⟩)
 have hne : v ≠ .slice none 0 0 := by
  rcases hrow.2 with ⟨rfl, h0⟩ | ⟨g, cap, cur, rfl, _⟩
  ·omega
  ·intro h; cases h
 have hrow1 := hrow
 rw [← Lib.map_encStr] at hrow
 obtain ⟨g, cap, rfl, hbase, hg, hcap, hmx, hl, hH⟩ := Lib.holds_of_ownsRow hrow hne
 have hsz : (zs.map (·.data.toList)).length < 4611686018427387904 := by rw [hl]; omega
 have cS := Tryz.slices_Sort_string g 0 cap _ W hH hg hsz
 rw [hl] at cS
 have HH := Aside0.mk hH
 have HB := Aside0.mk hb
 have HL := Aside0.mk hl
 clear hrow1 hrow hH hb hne hl hmx
 go_wp2_with (go_at_call 66; refine cS.mono ?_; rintro e w' ⟨rfl, nn, os, hw'⟩)
 go_ret
 subst hw'
 have hg1 : W.grownBy (grow (putRow encStr (Sort.ahead W nn) g 0 (sortedBytes zs).toArray) os) (some g) := grownBy_sorted _
 refine ⟨g, cap, rfl, hcap, hbase, Nat.lt_of_lt_of_le hg hg1.size, ?_, HB.out.grown hg1 HB.out.size (fun j hj => by cases hj; exact hbase)⟩
 exact Sort.holds_grow _ _ _ _ _ _ (by rw [size_putRow]; exact hg) (holds_putRow _ _ _ _ _ _ (holds_ahead _ _ _ _ _ _ HH.out) (by simp [sortedBytes]))
/-- How many texts are left where none is twice. -/
def uniqLen (zs : List ByteArray) : Nat := (Lib.compact (sortedBytes zs)).length
theorem uniq_calls (zs : List ByteArray) (hreach : zs.length ≤ 1000000) (g cap : Nat) (w : World) (hg : g < w.heap.size) (hcap : zs.length ≤ cap) (hH : Holds encStr w g 0 (sortedBytes zs).toArray) :
  Calls Tryz.prog 41 #[.slice (some ⟨g, 0, none⟩) zs.length cap] w fun e w' => e = .returned (.slice (some ⟨g, 0, none⟩) (uniqLen zs) cap) ∧ ∀ n₀, n₀ ≤ g → n₀ ≤ w.heap.size → Below n₀ w w' := by
 have h := Tryz.slices_Compact_string g 0 cap (sortedBytes zs) w hH (by rw [sortedBytes_length]; omega) (by rw [sortedBytes_length]; exact hcap)
 rw [sortedBytes_length] at h
 refine h.mono ?_
 rintro e w' ⟨rfl, q, rfl⟩
 exact ⟨rfl, fun n₀ h1 h2 => Lib.below_putRow (Below.refl _ _) h1⟩
end Go.Proofs.YtjeipkfeihahdaaGreatDoor
