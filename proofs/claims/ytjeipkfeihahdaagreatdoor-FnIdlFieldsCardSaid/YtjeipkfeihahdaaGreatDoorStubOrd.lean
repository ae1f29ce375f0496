/- A struct's fields by their numbers: the closure that compares, the sort that keeps the order of equals, and byOrd. -/
import Derived.Shelf.SlSortCmp.InsertionK
import Derived.Sort.LotA
import Derived.Lib.OwnBridge
import Derived.Lib.AppendIntMem
import Derived.Test.YtjeipkfeihahdaaGreatDoorLibSD
import Derived.Test.YtjeipkfeihahdaaGreatDoorV2
namespace Go.Proofs.YtjeipkfeihahdaaGreatDoor
open Go.RowKit Go.Shelf Go.Sort Go.Proofs.YtjeipkfeihahdaaGreatDoor.P Go.Proofs.YtjeipkfeihahdaaGreatDoorW.PrintWords Go.Proofs.YtjeipkfeihahdaaGreatDoorW.PrintLast Go.Proofs.YtjeipkfeihahdaaGreatDoorW.PrintMore
set_option linter.unusedVariables false
set_option linter.unusedSimpArgs false
instance : Inhabited SD := ⟨zD⟩
/-- Numbers compared. -/
def cfD (x y : SD) : Int := if x.f1 < y.f1 then -1 else if y.f1 < x.f1 then 1 else 0
set_option maxHeartbeats 1000000 in
theorem closureOrd (x y : SD) (W : World) : Calls Tryz.prog 50 #[aggD x, aggD y] W fun e w' => e = .returned (.int .i64 (cfD x y)) ∧ ∃ q os', w' = grow (W.drewN q) os' := by
 by_cases h1 : x.f1 < y.f1
 ·have hr : cfD x y = -1 := by unfold cfD; rw [if_pos h1]
  rw [hr]
  clear hr
  go_enter Tryz.func50, Tryz.ntmps50
  go_wp2
  go_ret
  exact ⟨rfl, 0, _, by rw [alloc_eq_grow, alloc_eq_grow, grow_grow]; rfl⟩
 ·by_cases h2 : y.f1 < x.f1
  ·have hr : cfD x y = 1 := by unfold cfD; rw [if_neg h1, if_pos h2]
   rw [hr]
   clear hr
   go_enter Tryz.func50, Tryz.ntmps50
   go_wp2
   go_ret
   exact ⟨rfl, 0, _, by rw [alloc_eq_grow, alloc_eq_grow, grow_grow]; rfl⟩
  ·have hr : cfD x y = 0 := by unfold cfD; rw [if_neg h1, if_neg h2]
   rw [hr]
   clear hr
   go_enter Tryz.func50, Tryz.ntmps50
   go_wp2
   go_ret
   exact ⟨rfl, 0, _, by rw [alloc_eq_grow, alloc_eq_grow, grow_grow]; rfl⟩
theorem cmpOrd (blk off size : Nat) (w : World) : CmpLays Tryz.prog 50 #[] encD 6 cfD blk off size w :=
 fun _ _ _ _ x y => closureOrd x y _
def layOrd_ren : Go.Shelf.Ren := ⟨fun | 20 => 94 | n => n, fun | 24 => 46 | 22 => 40 | 3 => 3 | 25 => 103 | 4 => 4 | 0 => 0 | n => n, fun | n => n⟩
theorem layOrd : Go.Proofs.SlLaysF0.n20 Tryz.prog layOrd_ren := {
 mixed := by kernel_rfl
 f20 := ⟨Tryz.f94.name, by decide, Tryz.func94.trans (congrArg some (by kernel_rfl))⟩
 t0 := Tryz.underlying0
 a0 := Tryz.isAgg0
 z0 := Tryz.sizeOf0
 v0 := Tryz.zeroValue0
 t3 := Tryz.underlying3
 a3 := Tryz.isAgg3
 z3 := Tryz.sizeOf3
 v3 := Tryz.zeroValue3
 t4 := Tryz.underlying4
 a4 := Tryz.isAgg4
 z4 := Tryz.sizeOf4
 v4 := Tryz.zeroValue4
 t22 := Tryz.underlying40
 a22 := Tryz.isAgg40
 z22 := Tryz.sizeOf40
 v22 := Tryz.zeroValue40
 t25 := Tryz.underlying103
 a25 := Tryz.isAgg103
 z25 := Tryz.sizeOf103
 v25 := Tryz.zeroValue103 }
/-- The fields by their numbers. -/
def ordSorted (zs : List SD) : List SD := (Sort.insertionSort (ltOf cfD) zs.toArray 0 zs.length).toList
theorem insOrd_calls (blk cap : Nat) (zs : List SD) (w : World) (hH : HoldsK encD 6 w blk 0 zs.toArray) (hblk : blk < w.heap.size) (hsz : zs.length ≤ 19) :
  Calls Tryz.prog 94 #[.slice (some ⟨blk, 0, none⟩) zs.length cap, .int .i64 0, .int .i64 zs.length, .func (.func 50) #[] #[]] w fun e w' =>
   e = .returned (.tuple #[]) ∧ ∃ n os, w' = sortWorldK encD 6 w blk 0 n (Sort.insertionSort (ltOf cfD) zs.toArray 0 zs.length) os := by
 have eg : ∀ args w, (callFunc 50 args).run Tryz.prog w = .ok (.enter 50 args) w := enters_of Tryz.func50 (by kernel_rfl) rfl
 have h := AnyQ.insertionSortCmpFunc layOrd 6 Tryz.isAgg46 Tryz.sizeOf46 encD (fun _ => rfl) (fun x v hv => by simp [encD] at hv; rcases hv with rfl | rfl | rfl | rfl | rfl | rfl <;> rfl) cfD 50 #[] blk 0 cap 0 zs.toArray.size zs.toArray w eg (cmpOrd _ _ _ _) hH hblk (Nat.zero_le _) (Nat.le_refl _) (by simp; omega)
 simp at h
 exact h
abbrev ordQ (blk : Nat) (zs : List SD) (w : World) : Ending → World → Prop := fun e w' => e = .returned (.tuple #[]) ∧ ∃ n os, w' = sortWorldK encD 6 w blk 0 n (Sort.insertionSort (ltOf cfD) zs.toArray 0 zs.length) os
set_option maxHeartbeats 1000000 in
theorem stableOrd_calls (blk cap : Nat) (zs : List SD) (w : World) (hH : HoldsK encD 6 w blk 0 zs.toArray) (hblk : blk < w.heap.size) (hsz : zs.length ≤ 19) :
  Calls Tryz.prog 82 #[.slice (some ⟨blk, 0, none⟩) zs.length cap, .int .i64 zs.length, .func (.func 50) #[] #[]] w (ordQ blk zs w) := by
 have hin := insOrd_calls blk cap zs w hH hblk hsz
 clear hH
 go_enter Tryz.func82, Tryz.ntmps82
 go_wp2_with fail
 go_loopg [7, 8] 0 (fun gg va vb wr => va = .int .i64 0 ∧ vb = .int .i64 20 ∧ wr = w)
 case atStart => exact ⟨rfl, rfl, rfl⟩
 case round =>
  obtain ⟨rfl, rfl, rfl⟩ := hrel
  have h20 : ¬ (20 : Int) ≤ (zs.length : Int) := by omega
  have h21 : ¬ (20 : Int) < (zs.length : Int) := by omega
  clear hsz
  go_wp2_with (go_at_call 94; refine hin.mono ?_; clear hin; rintro e w' ⟨rfl, n, os, hw'⟩; have HW := Aside0.mk hw'; clear hw')
  go_loopg [6, 7, 8, 9] 0 (fun gg vx va vb vc wr => vx = .int .i64 20 ∧ wr = w')
  case atStart => exact ⟨rfl, rfl⟩
  case round =>
   obtain ⟨rfl, rfl⟩ := hrel
   go_wp2_with fail
   go_end0
   exact ⟨rfl, n, os, HW.out⟩
theorem sortStable_calls (blk cap : Nat) (zs : List SD) (w : World) (hH : HoldsK encD 6 w blk 0 zs.toArray) (hblk : blk < w.heap.size) (hsz : zs.length ≤ 19) :
  Calls Tryz.prog 70 #[.slice (some ⟨blk, 0, none⟩) zs.length cap, .func (.func 50) #[] #[]] w (ordQ blk zs w) := by
 have hin := stableOrd_calls blk cap zs w hH hblk hsz
 clear hH
 go_enter Tryz.func70, Tryz.ntmps70
 go_wp2_with (go_at_call 82; refine hin.mono ?_; clear hin; rintro e w' ⟨rfl, n, os, hw'⟩; have HW := Aside0.mk hw'; clear hw')
 go_end0
 exact ⟨rfl, n, os, HW.out⟩
theorem flatD_at (zs : List SD) : ∀ t, t < zs.length * 6 → (flatD zs)[t]? = some ((encD (zs[t / 6]?.getD zD))[t % 6]!) := by
 induction zs with
 | nil => intro t h; simp at h
 | cons x zs ih =>
  intro t h
  have e : flatD (x :: zs) = encD x ++ flatD zs := by simp [flatD]
  rw [e]
  by_cases h6 : t < 6
  ·rw [List.getElem?_append_left (by rw [encD_length]; exact h6)]
   have : t / 6 = 0 := by omega
   rw [this, Nat.mod_eq_of_lt h6]
   match t, h6 with
   | 0, _ | 1, _ | 2, _ | 3, _ | 4, _ | 5, _ => rfl
  ·rw [List.getElem?_append_right (by rw [encD_length]; omega), encD_length, ih (t - 6) (by simp at h; omega)]
   have h1 : t / 6 = (t - 6) / 6 + 1 := by omega
   have h2 : t % 6 = (t - 6) % 6 := by omega
   rw [h1, h2]
   rfl
theorem holdsK_of_own {W : World} {base g cap : Nat} {zs : List SD} (h : W.ownsRow base 46 6 (.slice (some ⟨g, 0, none⟩) zs.length cap) zs.length (flatD zs)) : HoldsK encD 6 W g 0 zs.toArray ∧ g < W.heap.size ∧ base ≤ g := by
 rcases h.2 with ⟨e, _⟩ | ⟨g', cap', cur, e, hb, hg, hn, hm, hs, ht⟩
 ·cases e
 ·injection e with e1 _ e3
  injection e1 with e1
  injection e1 with e1
  subst e1
  refine ⟨fun j hj => ?_, (Array.getElem?_eq_some_iff.1 hg).1, hb⟩
  have hj' : j < zs.length * 6 := by simpa using hj
  refine ⟨?_, by simp [World.frozen?, hg]⟩
  have hf := flatD_at zs j hj'
  have e1 : cur[j]? = (flatD zs)[j]? := by rw [← ht, List.getElem?_take, if_pos hj', Array.getElem?_toList]
  unfold World.cell?
  simp only [Nat.zero_add, hg]
  simp only [Option.isSome_none, Bool.false_eq_true, if_false]
  rw [e1, hf, get_flatK _ _ _ _ (by simpa using hj')]
  congr 3
  rw [List.getElem!_toArray]
  have : j / 6 < zs.length := by omega
  simp [this]
theorem at6_of_holds {W : World} {g : Nat} {d : Array SD} (h : HoldsK encD 6 W g 0 d) (i : Nat) (hi : i < d.size) : At6 W g (i * 6) d[i]! := by
 have hc := fun c hc => (HoldsK.cell h hi (c := c) hc).1
 simp only [Nat.zero_add] at hc
 exact ⟨hc 0 (by omega), hc 1 (by omega), hc 2 (by omega), hc 3 (by omega), hc 4 (by omega), hc 5 (by omega)⟩
theorem swoD : SWO (ltOf cfD) := by
 have h : ∀ x y : SD, ltOf cfD x y = decide (x.f1 < y.f1) := fun x y => by
  unfold ltOf cfD
  by_cases h1 : x.f1 < y.f1
  ·simp [h1]
  ·by_cases h2 : y.f1 < x.f1 <;> simp [h1, h2]
 refine ⟨fun x => ?_, fun x y z h1 h2 => ?_, fun x y z h1 h2 => ?_⟩
 ·rw [h]; simp
 ·rw [h] at *; simp at *; omega
 ·rw [h] at *; simp at *; omega
theorem ordSorted_in (zs : List SD) : PermIn 0 zs.length zs.toArray (Sort.insertionSort (ltOf cfD) zs.toArray 0 zs.length) ∧ SortedIn (ltOf cfD) 0 zs.length (Sort.insertionSort (ltOf cfD) zs.toArray 0 zs.length) :=
 insertionSort_holds swoD _ _ _ (Nat.zero_le _) (by simp)
theorem ordSorted_perm (zs : List SD) : (ordSorted zs).Perm zs := by
 have h := (ordSorted_in zs).1
 have h2 := h.2.2
 have hs := h.1
 simp at hs
 unfold ordSorted
 rw [Array.extract_eq_self_of_le (by omega), Array.extract_eq_self_of_le (by simp)] at h2
 simpa using h2
theorem ordSorted_length (zs : List SD) : (ordSorted zs).length = zs.length := (ordSorted_perm zs).length_eq
theorem ordSorted_up (zs : List SD) (i j : Nat) (hij : i < j) (hj : j < zs.length) : ((ordSorted zs)[i]?.getD zD).f1 ≤ ((ordSorted zs)[j]?.getD zD).f1 := by
 have h := (ordSorted_in zs).2 i j (Nat.zero_le _) hij hj
 have hs := (ordSorted_in zs).1.1
 simp only [List.size_toArray] at hs
 have e : ∀ k, k < zs.length → (Sort.insertionSort (ltOf cfD) zs.toArray 0 zs.length)[k]! = (ordSorted zs)[k]?.getD zD := fun k hk => by
  unfold ordSorted
  rw [Array.getElem?_toList, getElem!_pos _ k (by omega), Array.getElem?_eq_getElem (by omega)]
  rfl
 rw [e i (by omega), e j hj] at h
 unfold ltOf cfD at h
 by_cases h1 : ((ordSorted zs)[j]?.getD zD).f1 < ((ordSorted zs)[i]?.getD zD).f1
 ·simp [h1] at h
 ·omega
theorem below_sortWorldK (n₀ : Nat) (W : World) (g n : Nat) (d : Array SD) (os : Array Obj) (h1 : n₀ ≤ g) (h2 : n₀ ≤ W.heap.size) : RowKit.Below n₀ W (sortWorldK encD 6 W g 0 n d os) := by
 unfold sortWorldK
 have h := Lib.below_putRow (enc := id) (q := n) (d := flatK encD 6 d) (RowKit.Below.refl n₀ W) h1
 have hg := Lib.below_grow n₀ (putRowK encD 6 (Sort.ahead W n) g 0 d) (by rw [size_putRowK]; exact h2) 0 os
 exact h.trans hg
/-- A slice of its own that holds the fields by their numbers. -/
def OrdAt (n₀ : Nat) (zs : List SD) (e : Ending) (w' : World) : Prop := ∃ g cap, e = .returned (.slice (some ⟨g, 0, none⟩) zs.length cap) ∧ zs.length ≤ cap ∧ n₀ ≤ g ∧ g < w'.heap.size ∧ ∀ i, i < zs.length → At6 w' g (i * 6) ((ordSorted zs)[i]?.getD zD)
set_option maxHeartbeats 1000000 in
theorem sortedOrd_calls (Bs n₀ : Nat) (sv : Value) (zs : List SD) (hpos : 0 < zs.length) (hreach : zs.length ≤ 19) (w : World) (hBs : Bs < w.heap.size) (hn₀ : n₀ ≤ w.heap.size) (hc0 : w.cell? ⟨Bs, 0, none⟩ = some sv) (hI : Decs n₀ w sv zs) :
  Calls Tryz.prog 48 #[.func (.func 71) #[] #[.pointer (some ⟨Bs, 0, none⟩)], .func (.func 50) #[] #[]] w fun e w' => OrdAt w.heap.size zs e w' ∧ RowKit.Below w.heap.size w w' := by
 have hcol : Calls Tryz.prog 81 #[.slice none 0 0, .func (.func 71) #[] #[.pointer (some ⟨Bs, 0, none⟩)]] w fun e W' => ∃ v, e = .returned v ∧ W'.ownsRow w.heap.size 46 6 v zs.length (flatD zs) ∧ RowKit.Below w.heap.size w W' :=
  callsIn_wide.1 (appDec_in Fence.wide 3 trivial trivial rfl (Nat.le_refl _) Bs n₀ sv zs (by omega) w hBs hn₀ hc0 hI)
 have hcol2 : Calls Tryz.prog 69 #[.func (.func 71) #[] #[.pointer (some ⟨Bs, 0, none⟩)]] w fun e W' => ∃ v, e = .returned v ∧ W'.ownsRow w.heap.size 46 6 v zs.length (flatD zs) ∧ RowKit.Below w.heap.size w W' := by
  go_enter Tryz.func69, Tryz.ntmps69
  go_wp2_with (go_at_call 81; refine hcol.mono ?_; rintro e W ⟨v, rfl, hrow, hb⟩)
  go_ret
  exact ⟨v, rfl, hrow, hb⟩
 clear hcol hI hc0
 go_enter Tryz.func48, Tryz.ntmps48
 go_upto_region 2 with (go_at_call 69; refine hcol2.mono ?_; rintro e W ⟨v, rfl, hrow, hb⟩)
 obtain ⟨g, cap, rfl, hcap⟩ : ∃ g cap, v = .slice (some ⟨g, 0, none⟩) zs.length cap ∧ zs.length ≤ cap := by
  rcases hrow.2 with ⟨rfl, h0⟩ | ⟨g, cap, cur, rfl, _, _, hc, _⟩
  ·omega
  ·exact ⟨g, cap, rfl, hc⟩
 obtain ⟨hH, hg, hbase⟩ := holdsK_of_own hrow
 have cS := sortStable_calls g cap zs W hH hg hreach
 have HH := Aside0.mk hH
 have HB := Aside0.mk hb
 clear hrow hH hb
 go_wp2_with (go_at_call 70; refine cS.mono ?_; clear cS; rintro e w' ⟨rfl, nn, os, hw'⟩; have HW := Aside0.mk hw'; clear hw')
 go_ret
 have hw' := HW.out
 subst hw'
 have hsz : (Sort.insertionSort (ltOf cfD) zs.toArray 0 zs.length).size = zs.toArray.size := (ordSorted_in zs).1.1
 have hH2 := holdsK_sortWorldK_c encD 6 W g 0 zs.toArray _ nn os HH.out hg hsz
 refine ⟨⟨g, cap, rfl, hcap, hbase, Nat.lt_of_lt_of_le hg (size_sortWorldK_c encD 6 W g 0 nn _ os), fun i hi => ?_⟩, HB.out.trans (below_sortWorldK _ _ _ _ _ _ hbase HB.out.size)⟩
 have h6 := at6_of_holds hH2 i (by rw [hsz]; simpa using hi)
 unfold ordSorted
 rw [Array.getElem?_toList, Array.getElem?_eq_getElem (by rw [hsz]; simpa using hi)]
 rwa [getElem!_pos _ i (by rw [hsz]; simpa using hi)] at h6
set_option maxHeartbeats 1000000 in
set_option maxRecDepth 100000 in
theorem byOrd_calls (name : ByteArray) (a : Option Addr) (cap : Nat) (zs : List SD) (hpos : 0 < zs.length) (hreach : zs.length ≤ 19) (w : World) (hI : Decs w.heap.size w (.slice a zs.length cap) zs) :
  Calls Tryz.prog 28 #[.agg #[.string name, .slice a zs.length cap]] w fun e w' => OrdAt w.heap.size zs e w' ∧ RowKit.Below w.heap.size w w' := by
 have P : ∀ W Bs, RowKit.Below w.heap.size w W → Bs < W.heap.size → W.cell? ⟨Bs, 0, none⟩ = some (.slice a zs.length cap) → Calls Tryz.prog 48 #[.func (.func 71) #[] #[.pointer (some ⟨Bs, 0, none⟩)], .func (.func 50) #[] #[]] W fun e w' => OrdAt w.heap.size zs e w' ∧ RowKit.Below w.heap.size w w' := fun W Bs hW hBs hc =>
  (sortedOrd_calls Bs w.heap.size _ zs hpos hreach W hBs hW.size hc (hI.below hW)).mono fun e w' ⟨⟨g, c, h1, h2, h3, h4, h5⟩, hb⟩ => ⟨⟨g, c, h1, h2, Nat.le_trans hW.size h3, h4, h5⟩, hW.trans (hb.mono hW.size)⟩
 have P := Aside0.mk P
 clear hI
 go_enter Tryz.func28, Tryz.ntmps28
 obtain ⟨W1, hW1⟩ : ∃ W1, W1 = w.alloc (.cells #[.string name, .slice a zs.length cap] 42) := ⟨_, rfl⟩
 have hb1 : RowKit.Below w.heap.size w W1 := by rw [hW1]; exact (RowKit.Below.refl _ w).alloc (Nat.le_refl _) _
 have cS := P.out (W1.alloc (.cells #[.slice a zs.length cap] 40)) W1.heap.size (hb1.alloc hb1.size _) (by rw [World.size_alloc]; exact Nat.lt_succ_self _) (Boxed.new W1 _ _).cell
 rw [hW1] at cS
 simp only [World.size_alloc] at cS
 clear P hb1 hW1
 go_wp2_with (first | (go_at_call 49; refine (valDec_calls _ _ _ _).mono ?_; rintro e w' ⟨rfl, rfl⟩) | (go_at_call 48; refine cS.mono ?_; clear cS; rintro e w' ⟨⟨g, c, rfl, h2, h3, h4, h5⟩, hb⟩; have H5 := Aside0.mk h5; have HB := Aside0.mk hb; clear h5 hb))
 go_ret
 exact ⟨⟨g, c, rfl, h2, h3, h4, H5.out⟩, HB.out⟩
end Go.Proofs.YtjeipkfeihahdaaGreatDoor
