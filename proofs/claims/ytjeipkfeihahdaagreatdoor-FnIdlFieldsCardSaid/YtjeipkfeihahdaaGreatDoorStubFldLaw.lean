/- The law FnIdlFields, walked. -/
import Derived.Test.YtjeipkfeihahdaaGreatDoorLibStep
import Derived.Test.YtjeipkfeihahdaaGreatDoorLemFld
import Derived.Test.YtjeipkfeihahdaaGreatDoorStubDrawF
namespace Go.Proofs.YtjeipkfeihahdaaGreatDoor
set_option linter.unusedVariables false
set_option linter.unusedSimpArgs false
open Go.RowKit Go.Proofs.YtjeipkfeihahdaaGreatDoor.P Go.Proofs.YtjeipkfeihahdaaGreatDoor.Lem Go.Proofs.YtjeipkfeihahdaaGreatDoorW.PrintWords Go.Proofs.YtjeipkfeihahdaaGreatDoorW.PrintLast Go.Proofs.YtjeipkfeihahdaaGreatDoorW.PrintMore
/-- The cells of a row of fields. -/
theorem fld_cells {W : World} {A : Option Addr} {L : List SF} (h : Kd.C k38 W A L.length L) (hl : 0 < L.length) : ∃ b o, A = some ⟨b, o, none⟩ ∧ ∀ n (hn : n < L.length), W.cell? ⟨b, o + n * 3, none⟩ = some (.int .i64 L[n].f0) ∧ W.cell? ⟨b, o + n * 3 + 1, none⟩ = some (.bool L[n].f1) ∧ W.cell? ⟨b, o + n * 3 + 2, none⟩ = some (.int .i64 L[n].f2) := by
  obtain ⟨ad, rfl, h0, _, _⟩ := at_T38 h 0 (by omega) (by omega)
  obtain ⟨b, o, rfl⟩ : ∃ b o, ad = ⟨b, o, none⟩ := by
    obtain ⟨b, o, e⟩ := spot_none h0
    refine ⟨ad.block, ad.off, ?_⟩
    have hspot : (ad.add ((0 : Int).toNat * 3)).spot = none := by rw [e]
    have : ad.add ((0 : Int).toNat * 3) = ad := by unfold Addr.add; simp
    rw [this] at hspot
    cases ad; cases hspot; rfl
  refine ⟨b, o, rfl, fun n hn => ?_⟩
  obtain ⟨ad, e, h0, h1, h2⟩ := at_T38 h (n : Int) (by omega) (by omega)
  cases e
  have hrd : rd_T38 L (n : Int) = L[n] := by
    unfold rd_T38
    rw [Int.toNat_natCast, List.getD_eq_getElem?_getD, List.getElem?_eq_getElem hn, Option.getD_some]
  rw [Int.toNat_natCast, hrd, add_none] at h0 h1 h2
  exact ⟨h0, h1, h2⟩
/-- A struct of the name is the one that is found. -/
theorem find_one {l0 : List SS} {l1 : List SE} (h : IC l0 l1 = 0) {a : ByteArray} {x : SS} (hx : findS l0 a = some x) (i : Nat) (hi : i < l0.length) (he : l0[i].f0.toList = a.toList) : l0[i] = x := by
  have ho := (ic_zero l0 l1 h).2.1
  rw [← once_eq] at ho
  unfold onceN at ho
  rw [List.all_eq_true] at ho
  have := ho (topOf l0 l1) (by simp)
  unfold onceL bys topOf at this
  rw [decide_eq_true_eq, List.map_append] at this
  have hn := (List.nodup_append.1 this).1
  rw [List.map_map] at hn
  obtain ⟨hm, hb⟩ := find_mem hx
  obtain ⟨j, hj, rfl⟩ := List.mem_iff_getElem.1 hm
  rcases Nat.lt_trichotomy i j with hlt | rfl | hlt
  · exfalso
    have := (List.pairwise_iff_getElem.1 hn) i j (by simpa using hi) (by simpa using hj) hlt
    simp only [List.getElem_map, Function.comp] at this
    rw [← ByteArray.toList_eq, ← ByteArray.toList_eq, he, hb] at this
    exact this rfl
  · rfl
  · exfalso
    have := (List.pairwise_iff_getElem.1 hn) j i (by simpa using hj) (by simpa using hi) hlt
    simp only [List.getElem_map, Function.comp] at this
    rw [← ByteArray.toList_eq, ← ByteArray.toList_eq, he, hb] at this
    exact this rfl
theorem ords_at (ds : List SD) (h : ordOne ds = true) (j : Nat) (hj : j < ds.length) : ∃ n : Nat, n < ds.length ∧ ds[j].f1 = (n : Int) := by
  have hm : ds[j].f1 ∈ (List.range ds.length).map (fun i : Nat => (i : Int)) := (ords_perm ds h).mem_iff.1 (List.mem_map_of_mem (List.getElem_mem hj))
  obtain ⟨n, hn, he⟩ := List.mem_map.1 hm
  exact ⟨n, List.mem_range.1 hn, he.symm⟩
/-- The field of a number is the declaration's. -/
theorem list_at {l0 : List SS} {l1 : List SE} (hS : Small l0 l1) (h : IC l0 l1 = 0) {x : SS} (hx : x ∈ l0) (k : Nat) (hk : k < x.f1.length) : ∃ n, ∃ hn : n < (listF l0 l1 x).length, x.f1[k].f1 = (n : Int) ∧ (listF l0 l1 x)[n] = fldF l0 l1 x.f1[k] ∧ (x.f1[k].f2.f1 = true → (fldF l0 l1 x.f1[k]).f0 = 6) := by
  have ho := (fine_has_len hS h hx).2.2
  obtain ⟨n, hn, e⟩ := ords_at x.f1 ho k hk
  have hl : n < (ordSorted x.f1).length := by rw [ordSorted_length]; exact hn
  have hx2 := ord_at ho n k hn hk e
  rw [List.getElem?_eq_getElem hl, Option.getD_some] at hx2
  refine ⟨n, by unfold listF; rw [List.length_map]; exact hl, e, ?_, fun hli => ?_⟩
  · unfold listF
    rw [List.getElem_map, ← hx2]
  · have h1 := (sizeOk_at h hx (List.getElem_mem hk)).1
    show sizeF l0 l1 x.f1[k].f2.f0 x.f1[k].f2.f1 = 6
    rw [hli] at h1 ⊢
    rw [sizeF_eq] at h1 ⊢
    unfold sizeB at h1 ⊢
    split
    · rename_i hc
      rw [if_pos hc] at h1
      omega
    · rw [if_pos (.inl rfl)]
set_option maxHeartbeats 4000000 in
set_option maxRecDepth 100000 in
theorem fldLaw (A : Option Addr) (c : Nat) (l : List Int) (w : World) (hSB : SBw w) (hl : ∀ x ∈ l, (Lit.int .u8 x).wf = true) (hA : Kd.C (Kd.int .u8) w A l.length l) (hc : l.length ≤ c) :
    Calls Tryz.prog 4 #[.slice A l.length c] w fun e w' => e = .returned (.bool true) ∧ Below w.heap.size w w' := by
  by_cases hlen : (1048576 : Int) < (l.length : Int)
  · clear hSB hl hA hc
    go_enter Tryz.func4, Tryz.ntmps4
    go_wp2_with fail
    go_ret
    exact ⟨rfl, Below.refl _ _⟩
  have hd := drawF_calls A c l w hl hA hc
  unfold DrawnF at hd
  have HSB := Aside0.mk hSB
  clear hSB hl hA hc
  go_enter Tryz.func4, Tryz.ntmps4
  go_upto_region 3 with fail
  go_upto_region 4 with (go_at_call 5; refine hd.mono ?_; clear hd; rintro e W2 ⟨A0, c0, l0, A1, c1, l1, nm, rfl, hsch, hS, hl5, hnm, hb2⟩; have HSCH := Aside0.mk hsch; have HS := Aside0.mk hS; have HB2 := Aside0.mk hb2; clear hsch hS hb2)
  obtain ⟨W3, hW3⟩ : ∃ W3, W3 = W2.alloc (.cells #[.slice A0 l0.length c0, .slice A1 l1.length c1] 26) := ⟨_, rfl⟩
  obtain ⟨B, hB⟩ : ∃ B, B = W2.heap.size := ⟨_, rfl⟩
  have hb3 : Below W2.heap.size W2 W3 := by rw [hW3]; exact below_alloc (Below.refl _ _) _
  have q0 : W3.cell? ⟨B, 0, none⟩ = some (.slice A0 l0.length c0) := by rw [hW3, hB]; exact (blk_cell (heap_alloc_new W2 _) 0).trans rfl
  have q1 : W3.cell? ⟨B, 1, none⟩ = some (.slice A1 l1.length c1) := by rw [hW3, hB]; exact (blk_cell (heap_alloc_new W2 _) 1).trans rfl
  rw [← hW3, ← hB]
  have HB3 := Aside0.mk (HB2.out.trans (hb3.mono HB2.out.size))
  have HSC3 := Aside0.mk (HSCH.out.below hb3)
  clear hW3 hB hb3 HSCH hlen
  by_cases hno : IC l0 l1 ≠ 0 ∨ findS l0 nm = none
  · have PI := Aside0.mk (fun W (hW : Below W3.heap.size W3 W) => idlF_none (l0 := l0) (l1 := l1) (A0 := A0) (c0 := c0) (A1 := A1) (c1 := c1) nm W (HSB.out.mv (HB3.out.trans (hW.mono HB3.out.size))) HS.out (HSC3.out.below hW) hno)
    have PS := Aside0.mk (fun W (hW : Below W3.heap.size W3 W) => specF_none (l0 := l0) (l1 := l1) (A0 := A0) (c0 := c0) (A1 := A1) (c1 := c1) nm W HS.out (HSC3.out.below hW) hno)
    clear hno
    go_wp2_with (first | (go_at_call 6; refine (PI.out W3 (Below.refl _ _)).mono ?_; rintro e W4 ⟨rfl, hb4⟩; have HB4 := Aside0.mk hb4; have q2 := pw_cell_below hb4 q0; have q3 := pw_cell_below hb4 q1; clear hb4) | (go_at_call 7; refine (PS.out W4 HB4.out).mono ?_; rintro e W5 ⟨A5, c5, rfl, hb5⟩; have HB5 := Aside0.mk (HB4.out.trans (hb5.mono HB4.out.size)); clear hb5))
    go_ret
    exact ⟨rfl, HB3.out.trans (HB5.out.mono HB3.out.size)⟩
  have hIC : IC l0 l1 = 0 := Classical.byContradiction fun h => hno (.inl h)
  obtain ⟨x, hx⟩ : ∃ x, findS l0 nm = some x := by
    cases e : findS l0 nm with
    | none => exact absurd (Or.inr e) hno
    | some x => exact ⟨x, rfl⟩
  have hxm := (find_mem hx).1
  have hle := list_eq hIC hxm
  have hok := list_ok HS.out hIC hxm
  have hll : (listF l0 l1 x).length ≤ 10 := by unfold listF; rw [List.length_map, ordSorted_length]; exact (HS.out.s0 x hxm).2.1
  obtain ⟨L, hL⟩ : ∃ L, L = listF l0 l1 x := ⟨_, rfl⟩
  have PI := Aside0.mk (fun W (hW : Below W3.heap.size W3 W) => idlF_some (l0 := l0) (l1 := l1) (A0 := A0) (c0 := c0) (A1 := A1) (c1 := c1) nm x W (HSB.out.mv (HB3.out.trans (hW.mono HB3.out.size))) HS.out (HSC3.out.below hW) hIC hx)
  have PS := Aside0.mk (fun W (hW : Below W3.heap.size W3 W) => specF_some (l0 := l0) (l1 := l1) (A0 := A0) (c0 := c0) (A1 := A1) (c1 := c1) nm x W HS.out (HSC3.out.below hW) hIC hx)
  have eL : (ordSorted x.f1).map (fldF l0 l1) = L := hL.symm
  rw [hle, ← hL] at PS
  rw [eL] at PI
  rw [← hL] at hok hll
  have HIC := Aside0.mk hIC
  have HX := Aside0.mk hx
  have HXM := Aside0.mk hxm
  have HLE := Aside0.mk hL
  have hfok : impl_FieldsOk.f L = some true := by unfold impl_FieldsOk.f; exact congrArg some hok
  have HFO := Aside0.mk hfok
  clear hno hIC hx hxm hle hL eL hfok
  have PO := Aside0.mk (fun W (hW : Below W3.heap.size W3 W) a4 d4 (hC : Kd.C k38 W a4 L.length L) (hd : L.length ≤ d4) => layoutOf_calls a4 d4 L W (HSB.out.mv (HB3.out.trans (hW.mono HB3.out.size))) hC hd hok)
  have HLL := Aside0.mk hll
  generalize (layS L).2.words = n0 at *
  generalize (layS L).2.ptrs = n1 at *
  generalize (layS L).2.tag = n2 at *
  clear hok
  go_upto_region 9 with (first | (go_at_call 6; refine (PI.out W3 (Below.refl _ _)).mono ?_; rintro e W4 ⟨v4, rfl, hR4, hb4⟩; obtain ⟨a4, d4, rfl⟩ := Kd.R_slice hR4; have HR4 := Aside0.mk hR4; have HB4 := Aside0.mk hb4; have q2 := pw_cell_below hb4 q0; have q3 := pw_cell_below hb4 q1; clear hb4 hR4) | (go_at_call 7; refine (PS.out W4 HB4.out).mono ?_; rintro e W5 ⟨v5, rfl, hR5, hb5⟩; obtain ⟨a5, d5, rfl⟩ := Kd.R_slice hR5; have HC5 := Aside0.mk (Kd.C_below (Kd.R_reads' HR4.out).2.2 hb5); have HW5 := Aside0.mk (Kd.R_reads' hR5).2.2; have HB5 := Aside0.mk (HB4.out.trans (hb5.mono HB4.out.size)); clear hb5 hR5) | (go_at_call 8; refine (PO.out W5 HB5.out a4 d4 HC5.out (Kd.R_reads' HR4.out).2.1).mono ?_; rintro e W6 ⟨a6, d6, rfl, hC6, hd6, hb6⟩; have HB6 := Aside0.mk (HB5.out.trans (hb6.mono HB5.out.size)); have HC6 := Aside0.mk (Kd.C_below HC5.out hb6); have HW6 := Aside0.mk (Kd.C_below HW5.out hb6); clear hC6 hd6 hb6))
  obtain ⟨W7, hW7⟩ : ∃ W7, W7 = W6.alloc (.cells #[.int .i64 n0, .int .i64 n1, .slice a6 L.length d6, .int .i64 n2] 34) := ⟨_, rfl⟩
  have hb7 : Below W6.heap.size W6 W7 := by rw [hW7]; exact below_alloc (Below.refl _ _) _
  have HC7 := Aside0.mk (Kd.C_below HC6.out hb7)
  have HW7 := Aside0.mk (Kd.C_below HW6.out hb7)
  have hB7 : Below W3.heap.size W3 W7 := HB6.out.trans (hb7.mono HB6.out.size)
  have HB7 := Aside0.mk (HB3.out.trans (hB7.mono HB3.out.size))
  have HSC7 := Aside0.mk (HSC3.out.below hB7)
  have HQ0 := Aside0.mk (pw_cell_below hB7 q0)
  have HD4 := Aside0.mk (Kd.R_reads' HR4.out).2.1
  have HSB7 := Aside0.mk (HSB.out.mv HB7.out)
  rw [← hW7]
  clear hW7 hb7 hB7 q0 q1 q2 q3 HR4 HB4 HC5 HW5 HB5 HC6 HW6 HB6 PI PS PO HSB
  go_upto_region 10 with fail
  go_loopg [11] l0.length (fun gg v wr => ∃ i : Nat, v = .int .i64 i ∧ i ≤ l0.length ∧ l0.length - i ≤ gg ∧ Aside0 (Below W7.heap.size W7 wr))
  case atStart => exact ⟨0, rfl, by omega, by omega, ⟨Below.refl _ _⟩⟩
  case round =>
    obtain ⟨i, rfl, hi, hgi, HB8⟩ := hrel
    have q0 := pw_cell_below HB8.out HQ0.out
    by_cases hlt : i < l0.length
    · obtain ⟨ad, D, cd, rfl, y0, y1, hcd, hCd⟩ := struct_at HSC7.out.h0 i hlt
      have hlt' : (i : Int) < (l0.length : Int) := by omega
      obtain ⟨d, hd⟩ : ∃ d, d = l0[i] := ⟨_, rfl⟩
      rw [← hd] at y0 y1 hcd hCd
      have HD := Aside0.mk hd
      have HCD := Aside0.mk hCd
      have x0 := pw_cell_below HB8.out y0
      have x1 := pw_cell_below HB8.out y1
      have HY1 := Aside0.mk y1
      clear hd hcd hCd y0 y1
      by_cases hne : d.f0.toList = nm.toList
      case neg =>
        have hne' : (d.f0.toList == nm.toList) = false := beq_false_of_ne hne
        go_wp2_with fail
        go_roundg (l0.length - (i + 1))
        case measure => omega
        case rel => exact ⟨i + 1, by first | go_num | (congr 1; unfold wrap64; omega), by omega, by omega, HB8⟩
      case pos =>
      have hne' : (d.f0.toList == nm.toList) = true := by rw [hne]; exact beq_self_eq_true _
      have hdx : d = x := by rw [HD.out] at hne ⊢; exact find_one HIC.out HX.out i hlt hne
      subst hdx
      have hdl := fine_has_len HS.out HIC.out HXM.out
      have HDL := Aside0.mk hdl
      have hd10 := hdl.2.1
      clear hdl
      go_upto_region 14 with fail
      clear x0 x1 q0
      go_loopg [12] d.f1.length (fun gg v wr => ∃ k : Nat, v = .int .i64 k ∧ k ≤ d.f1.length ∧ d.f1.length - k ≤ gg ∧ Aside0 (Below W7.heap.size W7 wr))
      case atStart => exact ⟨0, rfl, by omega, by omega, HB8⟩
      case round =>
        clear HB8
        obtain ⟨k, rfl, hk, hgk, HB8⟩ := hrel
        have q0 := pw_cell_below HB8.out HQ0.out
        have x1 := pw_cell_below HB8.out HY1.out
        by_cases hltk : k < d.f1.length
        · have hltk' : (k : Int) < (d.f1.length : Int) := by omega
          obtain ⟨ad2, rfl, y0, y1, y2, y3, y4, y5⟩ := decl_at (Kd.C_below HCD.out HB8.out) k hltk
          have hq : ∃ n, ∃ hn : n < L.length, d.f1[k].f1 = (n : Int) ∧ L[n] = fldF l0 l1 d.f1[k] ∧ (d.f1[k].f2.f1 = true → (fldF l0 l1 d.f1[k]).f0 = 6) := by
            have h := list_at HS.out HIC.out HXM.out k hltk
            rw [← HLE.out] at h
            exact h
          obtain ⟨n, hn, hxn, hLn, hli⟩ := hq
          have hll := HLL.out
          obtain ⟨b4, o4, e4, hc4⟩ := fld_cells (Kd.C_below HC7.out HB8.out) (by omega)
          obtain ⟨b5, o5, e5, hc5⟩ := fld_cells (Kd.C_below HW7.out HB8.out) (by omega)
          subst e4 e5
          obtain ⟨z0, z1, z2⟩ := hc4 n hn
          obtain ⟨u0, u1, u2⟩ := hc5 n hn
          rw [hLn] at z0 z1 z2 u0 u1 u2
          obtain ⟨x, hx⟩ : ∃ x, x = d.f1[k] := ⟨_, rfl⟩
          rw [← hx] at y0 y1 y2 y3 y4 y5 z0 z1 z2 u0 u1 u2 hxn hli
          rw [hxn] at y1
          replace z1 : wr.cell? ⟨b4, o4 + n * 3 + 1, none⟩ = some (.bool x.f3) := z1
          replace u1 : wr.cell? ⟨b5, o5 + n * 3 + 1, none⟩ = some (.bool x.f3) := u1
          replace z2 : wr.cell? ⟨b4, o4 + n * 3 + 2, none⟩ = some (.int .i64 x.f4) := z2
          replace u2 : wr.cell? ⟨b5, o5 + n * 3 + 2, none⟩ = some (.int .i64 x.f4) := u2
          have hn' : (n : Int) < (L.length : Int) := by omega
          have hn0 : (0 : Int) ≤ (n : Int) := by omega
          clear hc4 hc5 hLn hx hxn hll
          generalize (fldF l0 l1 x).f0 = s0 at *
          generalize x.f3 = ch at *
          generalize x.f4 = el at *
          by_cases hb : x.f2.f1 = true
          · obtain rfl : s0 = 6 := hli hb
            rw [hb] at y3
            clear hb hli
            go_upto_region 17 with fail
            have v0 := pw_cell_below (below_alloc (Below.refl wr.heap.size wr) (.cells #[.string x.f0, .int .i64 (n : Int), .string x.f2.f0, .bool true, .bool ch, .int .i64 el] 46)) z0
            have v1 := pw_cell_below (below_alloc (Below.refl wr.heap.size wr) (.cells #[.string x.f0, .int .i64 (n : Int), .string x.f2.f0, .bool true, .bool ch, .int .i64 el] 46)) z1
            have v2 := pw_cell_below (below_alloc (Below.refl wr.heap.size wr) (.cells #[.string x.f0, .int .i64 (n : Int), .string x.f2.f0, .bool true, .bool ch, .int .i64 el] 46)) z2
            have v3 : (wr.alloc (.cells #[.string x.f0, .int .i64 (n : Int), .string x.f2.f0, .bool true, .bool ch, .int .i64 el] 46)).cell? ⟨wr.heap.size, 1, none⟩ = some (.int .i64 (n : Int)) := (blk_cell (heap_alloc_new wr _) 1).trans rfl
            go_upto_region 18 with fail
            obtain ⟨W8, hW8⟩ : ∃ W8, W8 = (wr.alloc (.cells #[.string x.f0, .int .i64 (n : Int), .string x.f2.f0, .bool true, .bool ch, .int .i64 el] 46)).alloc (.cells #[.int .i64 6, .bool ch, .int .i64 el] 38) := ⟨_, rfl⟩
            obtain ⟨DB, hDB⟩ : ∃ DB, DB = wr.heap.size := ⟨_, rfl⟩
            obtain ⟨FB, hFB⟩ : ∃ FB, FB = wr.heap.size + 1 := ⟨_, rfl⟩
            have hb8 : Below wr.heap.size wr W8 := by rw [hW8]; exact below_alloc (below_alloc (Below.refl _ _) _) _
            have hd8 : Below W8.heap.size W8 W8.drew := below_drew1 (Below.refl _ _)
            have hbd : Below wr.heap.size wr W8.drew := hb8.trans (hd8.mono hb8.size)
            have hf : W8.heap[FB]? = some (.cells #[.int .i64 6, .bool ch, .int .i64 el] 38 (0, 0)) := by
              have := heap_alloc_new (wr.alloc (.cells #[.string x.f0, .int .i64 (n : Int), .string x.f2.f0, .bool true, .bool ch, .int .i64 el] 46)) (.cells #[.int .i64 6, .bool ch, .int .i64 el] 38)
              rw [World.size_alloc, ← hW8, ← hFB] at this
              exact this
            have hg : W8.heap[DB]? = some (.cells #[.string x.f0, .int .i64 (n : Int), .string x.f2.f0, .bool true, .bool ch, .int .i64 el] 46 (0, 0)) := by
              rw [hW8, hDB]
              exact blk_alloc (heap_alloc_new wr _) _
            rw [← hW8, ← hFB, ← hDB]
            have HBX := Aside0.mk (HB8.out.trans (hbd.mono HB8.out.size))
            have p0 : W8.drew.cell? ⟨FB, 0, none⟩ = some (.int .i64 6) := pw_cell_below hd8 ((blk_cell hf 0).trans rfl)
            have p1 : W8.drew.cell? ⟨FB, 1, none⟩ = some (.bool ch) := pw_cell_below hd8 ((blk_cell hf 1).trans rfl)
            have p2 : W8.drew.cell? ⟨FB, 2, none⟩ = some (.int .i64 el) := pw_cell_below hd8 ((blk_cell hf 2).trans rfl)
            have p3 : W8.drew.cell? ⟨DB, 1, none⟩ = some (.int .i64 (n : Int)) := pw_cell_below hd8 ((blk_cell hg 1).trans rfl)
            have p4 : W8.drew.cell? ⟨DB, 3, none⟩ = some (.bool true) := pw_cell_below hd8 ((blk_cell hg 3).trans rfl)
            have p5 : W8.drew.cell? ⟨DB, 4, none⟩ = some (.bool ch) := pw_cell_below hd8 ((blk_cell hg 4).trans rfl)
            have p6 : W8.drew.cell? ⟨DB, 5, none⟩ = some (.int .i64 el) := pw_cell_below hd8 ((blk_cell hg 5).trans rfl)
            have p7 := pw_cell_below hbd u0
            have p8 := pw_cell_below hbd u1
            have p9 := pw_cell_below hbd u2
            clear hW8 hDB hFB hb8 hd8 hbd hf hg v0 v1 v2 v3 y0 y1 y2 y3 y4 y5 z0 z1 z2 u0 u1 u2 q0 x1
            refine start_ (n := 31) (S := fun w' => w'.cell? ⟨FB, 0, none⟩ = some (.int .i64 6) ∧ w'.cell? ⟨FB, 1, none⟩ = some (.bool ch) ∧ w'.cell? ⟨FB, 2, none⟩ = some (.int .i64 el) ∧ w'.cell? ⟨DB, 1, none⟩ = some (.int .i64 (n : Int)) ∧ w'.cell? ⟨DB, 3, none⟩ = some (.bool true) ∧ w'.cell? ⟨DB, 4, none⟩ = some (.bool ch) ∧ w'.cell? ⟨DB, 5, none⟩ = some (.int .i64 el) ∧ w'.cell? ⟨b5, o5 + n * 3, none⟩ = some (.int .i64 6) ∧ w'.cell? ⟨b5, o5 + n * 3 + 1, none⟩ = some (.bool ch) ∧ w'.cell? ⟨b5, o5 + n * 3 + 2, none⟩ = some (.int .i64 el)) (ds := []) #[false, false, false, false, false, false, false, false, false, false, false, false, false, false, false, false, false, false, false, false, false, false, false, false, false, false, false, false, false, false, false] (by kernel_rfl) rfl rfl ⟨p0, p1, p2, p3, p4, p5, p6, p7, p8, p9⟩ (fun hHeld => ?_)
            refine pu_ 1 (some 105) rfl ?_
            refine pu_ 2 (some 106) rfl ?_
            refine tk_ 0 (some 104) rfl hHeld ?_
            refine tk_ 3 (some 107) rfl hHeld ?_
            refine pu_ 4 (some 108) rfl ?_
            refine tk_ 5 (some 109) rfl hHeld ?_
            refine pu_ 6 (some 110) rfl ?_
            refine pu_ 7 (some 111) rfl ?_
            refine pu_ 8 (some 112) rfl ?_
            refine pu_ 10 (some 114) rfl ?_
            refine tk_ 9 (some 113) rfl hHeld ?_
            refine tk_ 11 (some 115) rfl hHeld ?_
            refine pu_ 12 (some 116) rfl ?_
            refine pu_ 13 (some 117) rfl ?_
            refine pu_ 14 (some 118) rfl ?_
            refine pu_ 15 (some 119) rfl ?_
            refine pu_ 17 (some 121) rfl ?_
            refine tk_ 16 (some 120) rfl hHeld ?_
            refine tk_ 18 (some 122) rfl hHeld ?_
            refine pu_ 19 (some 123) rfl ?_
            refine pu_ 20 (some 124) rfl ?_
            refine pu_ 21 (some 125) rfl ?_
            refine pu_ 22 (some 126) rfl ?_
            refine pu_ 23 (some 127) rfl ?_
            refine tk_ 24 (some 128) rfl hHeld ?_
            refine pu_ 25 (some 129) rfl ?_
            refine pu_ 26 (some 130) rfl ?_
            refine tk_ 27 (some 131) rfl hHeld ?_
            refine pu_ 28 (some 132) rfl ?_
            refine pu_ 29 (some 133) rfl ?_
            refine pu_ 30 (some 134) rfl ?_
            refine done_ (by kernel_rfl) ?_
            clear p0 p1 p2 p3 p4 p5 p6 p7 p8 p9
            go_wp2_with fail
            go_roundg (d.f1.length - (k + 1))
            case measure => omega
            case rel => exact ⟨k + 1, by first | go_num | (congr 1; unfold wrap64; omega), by omega, by omega, HBX⟩
          · rw [Bool.not_eq_true] at hb
            rw [hb] at y3
            clear hb hli
            go_upto_region 17 with fail
            have v0 := pw_cell_below (below_alloc (Below.refl wr.heap.size wr) (.cells #[.string x.f0, .int .i64 (n : Int), .string x.f2.f0, .bool false, .bool ch, .int .i64 el] 46)) z0
            have v1 := pw_cell_below (below_alloc (Below.refl wr.heap.size wr) (.cells #[.string x.f0, .int .i64 (n : Int), .string x.f2.f0, .bool false, .bool ch, .int .i64 el] 46)) z1
            have v2 := pw_cell_below (below_alloc (Below.refl wr.heap.size wr) (.cells #[.string x.f0, .int .i64 (n : Int), .string x.f2.f0, .bool false, .bool ch, .int .i64 el] 46)) z2
            have v3 : (wr.alloc (.cells #[.string x.f0, .int .i64 (n : Int), .string x.f2.f0, .bool false, .bool ch, .int .i64 el] 46)).cell? ⟨wr.heap.size, 1, none⟩ = some (.int .i64 (n : Int)) := (blk_cell (heap_alloc_new wr _) 1).trans rfl
            go_upto_region 18 with fail
            obtain ⟨W8, hW8⟩ : ∃ W8, W8 = (wr.alloc (.cells #[.string x.f0, .int .i64 (n : Int), .string x.f2.f0, .bool false, .bool ch, .int .i64 el] 46)).alloc (.cells #[.int .i64 s0, .bool ch, .int .i64 el] 38) := ⟨_, rfl⟩
            obtain ⟨DB, hDB⟩ : ∃ DB, DB = wr.heap.size := ⟨_, rfl⟩
            obtain ⟨FB, hFB⟩ : ∃ FB, FB = wr.heap.size + 1 := ⟨_, rfl⟩
            have hb8 : Below wr.heap.size wr W8 := by rw [hW8]; exact below_alloc (below_alloc (Below.refl _ _) _) _
            have hd8 : Below W8.heap.size W8 W8.drew := below_drew1 (Below.refl _ _)
            have hbd : Below wr.heap.size wr W8.drew := hb8.trans (hd8.mono hb8.size)
            have hf : W8.heap[FB]? = some (.cells #[.int .i64 s0, .bool ch, .int .i64 el] 38 (0, 0)) := by
              have := heap_alloc_new (wr.alloc (.cells #[.string x.f0, .int .i64 (n : Int), .string x.f2.f0, .bool false, .bool ch, .int .i64 el] 46)) (.cells #[.int .i64 s0, .bool ch, .int .i64 el] 38)
              rw [World.size_alloc, ← hW8, ← hFB] at this
              exact this
            have hg : W8.heap[DB]? = some (.cells #[.string x.f0, .int .i64 (n : Int), .string x.f2.f0, .bool false, .bool ch, .int .i64 el] 46 (0, 0)) := by
              rw [hW8, hDB]
              exact blk_alloc (heap_alloc_new wr _) _
            rw [← hW8, ← hFB, ← hDB]
            have HBX := Aside0.mk (HB8.out.trans (hbd.mono HB8.out.size))
            have p0 : W8.drew.cell? ⟨FB, 0, none⟩ = some (.int .i64 s0) := pw_cell_below hd8 ((blk_cell hf 0).trans rfl)
            have p1 : W8.drew.cell? ⟨FB, 1, none⟩ = some (.bool ch) := pw_cell_below hd8 ((blk_cell hf 1).trans rfl)
            have p2 : W8.drew.cell? ⟨FB, 2, none⟩ = some (.int .i64 el) := pw_cell_below hd8 ((blk_cell hf 2).trans rfl)
            have p3 : W8.drew.cell? ⟨DB, 1, none⟩ = some (.int .i64 (n : Int)) := pw_cell_below hd8 ((blk_cell hg 1).trans rfl)
            have p4 : W8.drew.cell? ⟨DB, 3, none⟩ = some (.bool false) := pw_cell_below hd8 ((blk_cell hg 3).trans rfl)
            have p5 : W8.drew.cell? ⟨DB, 4, none⟩ = some (.bool ch) := pw_cell_below hd8 ((blk_cell hg 4).trans rfl)
            have p6 : W8.drew.cell? ⟨DB, 5, none⟩ = some (.int .i64 el) := pw_cell_below hd8 ((blk_cell hg 5).trans rfl)
            have p7 := pw_cell_below hbd u0
            have p8 := pw_cell_below hbd u1
            have p9 := pw_cell_below hbd u2
            clear hW8 hDB hFB hb8 hd8 hbd hf hg v0 v1 v2 v3 y0 y1 y2 y3 y4 y5 z0 z1 z2 u0 u1 u2 q0 x1
            refine start_ (n := 31) (S := fun w' => w'.cell? ⟨FB, 0, none⟩ = some (.int .i64 s0) ∧ w'.cell? ⟨FB, 1, none⟩ = some (.bool ch) ∧ w'.cell? ⟨FB, 2, none⟩ = some (.int .i64 el) ∧ w'.cell? ⟨DB, 1, none⟩ = some (.int .i64 (n : Int)) ∧ w'.cell? ⟨DB, 3, none⟩ = some (.bool false) ∧ w'.cell? ⟨DB, 4, none⟩ = some (.bool ch) ∧ w'.cell? ⟨DB, 5, none⟩ = some (.int .i64 el) ∧ w'.cell? ⟨b5, o5 + n * 3, none⟩ = some (.int .i64 s0) ∧ w'.cell? ⟨b5, o5 + n * 3 + 1, none⟩ = some (.bool ch) ∧ w'.cell? ⟨b5, o5 + n * 3 + 2, none⟩ = some (.int .i64 el)) (ds := []) #[false, false, false, false, false, false, false, false, false, false, false, false, false, false, false, false, false, false, false, false, false, false, false, false, false, false, false, false, false, false, false] (by kernel_rfl) rfl rfl ⟨p0, p1, p2, p3, p4, p5, p6, p7, p8, p9⟩ (fun hHeld => ?_)
            refine pu_ 1 (some 105) rfl ?_
            refine pu_ 2 (some 106) rfl ?_
            refine tk_ 0 (some 104) rfl hHeld ?_
            refine tk_ 3 (some 107) rfl hHeld ?_
            refine pu_ 4 (some 108) rfl ?_
            refine tk_ 5 (some 109) rfl hHeld ?_
            refine pu_ 6 (some 110) rfl ?_
            refine pu_ 7 (some 111) rfl ?_
            refine pu_ 8 (some 112) rfl ?_
            refine pu_ 10 (some 114) rfl ?_
            refine tk_ 9 (some 113) rfl hHeld ?_
            refine tk_ 11 (some 115) rfl hHeld ?_
            refine pu_ 12 (some 116) rfl ?_
            refine pu_ 13 (some 117) rfl ?_
            refine pu_ 14 (some 118) rfl ?_
            refine pu_ 15 (some 119) rfl ?_
            refine pu_ 17 (some 121) rfl ?_
            refine tk_ 16 (some 120) rfl hHeld ?_
            refine tk_ 18 (some 122) rfl hHeld ?_
            refine pu_ 19 (some 123) rfl ?_
            refine pu_ 20 (some 124) rfl ?_
            refine pu_ 21 (some 125) rfl ?_
            refine pu_ 22 (some 126) rfl ?_
            refine pu_ 23 (some 127) rfl ?_
            refine tk_ 24 (some 128) rfl hHeld ?_
            refine pu_ 25 (some 129) rfl ?_
            refine pz_ 26 (some 130) rfl ?_
            refine pz_ 27 (some 131) rfl ?_
            refine pz_ 28 (some 132) rfl ?_
            refine pu_ 29 (some 133) rfl ?_
            refine pu_ 30 (some 134) rfl ?_
            refine done_ (by kernel_rfl) ?_
            clear p0 p1 p2 p3 p4 p5 p6 p7 p8 p9
            go_wp2_with fail
            go_roundg (d.f1.length - (k + 1))
            case measure => omega
            case rel => exact ⟨k + 1, by first | go_num | (congr 1; unfold wrap64; omega), by omega, by omega, HBX⟩
        · obtain rfl : k = d.f1.length := by omega
          go_wp2_with fail
          go_roundg (l0.length - (i + 1))
          case measure => omega
          case rel => exact ⟨i + 1, by first | go_num | (congr 1; unfold wrap64; omega), by omega, by omega, HB8⟩
    · obtain rfl : i = l0.length := by omega
      go_wp2_with (go_at_call 9; refine (impl_FieldsOk.calls a4 d4 L true _ (HSB7.out.mv HB8.out) (Kd.C_below HC7.out HB8.out) HD4.out HFO.out).mono ?_; rintro e W9 ⟨rfl, hb9⟩; have HB9 := Aside0.mk (HB8.out.trans (hb9.mono HB8.out.size)); clear hb9)
      go_ret
      exact ⟨rfl, HB7.out.trans (HB9.out.mono HB7.out.size)⟩
end Go.Proofs.YtjeipkfeihahdaaGreatDoor
