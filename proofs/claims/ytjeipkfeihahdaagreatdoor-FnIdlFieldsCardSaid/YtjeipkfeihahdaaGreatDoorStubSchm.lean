/- Plain facts, merged out of several texts: StubSchema, StubEvery, StubFormed. -/
import Derived.Test.YtjeipkfeihahdaaGreatDoorLemIdl
import Derived.Test.YtjeipkfeihahdaaGreatDoorLibSD
section
namespace Go.Proofs.YtjeipkfeihahdaaGreatDoor
set_option linter.unusedVariables false
set_option linter.unusedSimpArgs false
open Go.RowKit Go.Proofs.YtjeipkfeihahdaaGreatDoor.P Go.Proofs.YtjeipkfeihahdaaGreatDoor.Lem Go.Proofs.YtjeipkfeihahdaaGreatDoorW.PrintWords Go.Proofs.YtjeipkfeihahdaaGreatDoorW.PrintLast Go.Proofs.YtjeipkfeihahdaaGreatDoorW.PrintMore
theorem heapD : Kd.Heap k46 := Kd.heap_iso _ (Kd.heap_pair Kd.heap_string (Kd.heap_pair (Kd.heap_int _) (Kd.heap_pair (Kd.heap_iso _ (Kd.heap_pair Kd.heap_string Kd.heap_bool)) (Kd.heap_pair Kd.heap_bool (Kd.heap_int _)))))
theorem heapS : Kd.Heap k42 := Kd.heap_iso _ (Kd.heap_pair Kd.heap_string (Kd.heap_slice _ heapD))
theorem heapE : Kd.Heap k70 := Kd.heap_iso _ (Kd.heap_pair Kd.heap_string (Kd.heap_slice _ Kd.heap_string))
/-- A schema that is read. -/
structure SchAt (W : World) (A0 : Option Addr) (c0 : Nat) (l0 : List SS) (A1 : Option Addr) (c1 : Nat) (l1 : List SE) : Prop where
 h0 : Kd.C k42 W A0 l0.length l0
 b0 : l0.length ≤ c0
 h1 : Kd.C k70 W A1 l1.length l1
 b1 : l1.length ≤ c1
theorem SchAt.below {W W1 : World} {A0 : Option Addr} {c0 : Nat} {l0 : List SS} {A1 : Option Addr} {c1 : Nat} {l1 : List SE} (h : SchAt W A0 c0 l0 A1 c1 l1) (hb : Below W.heap.size W W1) : SchAt W1 A0 c0 l0 A1 c1 l1 := ⟨Kd.C_below h.h0 hb, h.b0, Kd.C_below h.h1 hb, h.b1⟩
abbrev schV (A0 : Option Addr) (c0 : Nat) (l0 : List SS) (A1 : Option Addr) (c1 : Nat) (l1 : List SE) : Value := .agg #[.slice A0 l0.length c0, .slice A1 l1.length c1]
section
variable {A0 A1 : Option Addr} {c0 c1 : Nat} {l0 : List SS} {l1 : List SE}
theorem names_calls (w : World) (hS : Small l0 l1) (h : SchAt w A0 c0 l0 A1 c1 l1) :
  Calls Tryz.prog 40 #[schV A0 c0 l0 A1 c1 l1] w fun e w' => ∃ B0 d0 B1 d1, e = .returned (.tuple #[.slice B0 (allOf (lotsOf l0 l1 ++ [topOf l0 l1])).length d0, .slice B1 (lotsOf l0 l1 ++ [topOf l0 l1]).length d1]) ∧
   Kd.C Kd.string w' B0 (allOf (lotsOf l0 l1 ++ [topOf l0 l1])).length (allOf (lotsOf l0 l1 ++ [topOf l0 l1])) ∧ (lotsOf l0 l1 ++ [topOf l0 l1]).length ≤ d1 ∧
   Kd.C (Kd.slice 9 Kd.string) w' B1 (lotsOf l0 l1 ++ [topOf l0 l1]).length (lotsOf l0 l1 ++ [topOf l0 l1]) ∧ Below w.heap.size w w' := by
 obtain ⟨k, hk⟩ := names_f l0 l1 hS
 refine (impl_Schema_names.calls k A0 c0 l0 _ A1 c1 l1 _ _ w h.h0 h.b0 (Kd.V_mk h.b1 (Kd.C_F heapE h.h1)) hk).mono ?_
 rintro e w' ⟨v0, v1, rfl, hR, hN, hb⟩
 obtain ⟨B0, d0, rfl, hl0, hC0⟩ := Kd.R_reads hR
 obtain ⟨B1, d1, rfl, hl1, hF⟩ := Kd.N_V (base' := 0) hN
 exact ⟨B0, d0, B1, d1, rfl, hC0, hl1, Kd.F_now hF, hb⟩
theorem record_calls (a : ByteArray) (w : World) (hS : Small l0 l1) (h : SchAt w A0 c0 l0 A1 c1 l1) :
  Calls Tryz.prog 27 #[schV A0 c0 l0 A1 c1 l1, .string a] w fun e w' => ∃ B d, e = .returned (.tuple #[.agg #[.string ((findS l0 a).getD zS).f0, .slice B ((findS l0 a).getD zS).f1.length d], .bool (findS l0 a).isSome]) ∧
   ((findS l0 a).getD zS).f1.length ≤ d ∧ Kd.C k46 w' B ((findS l0 a).getD zS).f1.length ((findS l0 a).getD zS).f1 ∧ Below w.heap.size w w' := by
 have hk := record_f a l0 l1 (by have := hS.n0; omega) 1002 (Nat.le_refl _)
 have hk' : impl_Schema_record.f 1002 l0 l1 a = some (((findS l0 a).getD zS).f0, ((findS l0 a).getD zS).f1, (findS l0 a).isSome) := by
  rw [hk]
  cases findS l0 a <;> rfl
 refine (impl_Schema_record.calls 1002 _ A0 c0 l0 A1 c1 l1 a _ _ _ w (Kd.V_mk h.b0 (Kd.C_F heapS h.h0)) h.h1 h.b1 hk').mono ?_
 rintro e w' ⟨v1, rfl, ⟨B, d, rfl, hl, hF⟩, hb⟩
 exact ⟨B, d, rfl, hl, Kd.F_now hF, hb⟩
theorem enum_calls (a : ByteArray) (w : World) (hS : Small l0 l1) (h : SchAt w A0 c0 l0 A1 c1 l1) :
  Calls Tryz.prog 51 #[schV A0 c0 l0 A1 c1 l1, .string a] w fun e w' => ∃ B d, e = .returned (.tuple #[.agg #[.string ((findE l1 a).getD zE).f0, .slice B ((findE l1 a).getD zE).f1.length d], .bool (findE l1 a).isSome]) ∧ Below w.heap.size w w' := by
 have hk := enum_f a l0 l1 (by have := hS.n1; omega) 1002 (Nat.le_refl _)
 have hk' : impl_Schema_enum.f 1002 l0 l1 a = some (((findE l1 a).getD zE).f0, ((findE l1 a).getD zE).f1, (findE l1 a).isSome) := by
  rw [hk]
  cases findE l1 a <;> rfl
 refine (impl_Schema_enum.calls 1002 A0 c0 l0 _ A1 c1 l1 a _ _ _ w h.h0 h.b0 (Kd.V_mk h.b1 (Kd.C_F heapE h.h1)) hk').mono ?_
 rintro e w' ⟨v1, rfl, ⟨B, d, rfl, hl, hF⟩, hb⟩
 exact ⟨B, d, rfl, hb⟩
def sizeB (z : Int) (e s li : Bool) : Int := if z = 0 ∧ e = false ∧ s = false then -1 else if li = true ∨ s = true then 6 else if e = true then 3 else z
theorem sizeF_eq (l0 : List SS) (l1 : List SE) (b : ByteArray) (li : Bool) : sizeF l0 l1 b li = sizeB (baseSize b) (findE l1 b).isSome (findS l0 b).isSome li := by
 unfold sizeF sizeB
 cases findE l1 b <;> cases findS l0 b <;> simp
set_option maxHeartbeats 4000000 in
set_option maxRecDepth 100000 in
theorem size_calls (b : ByteArray) (li : Bool) (w : World) (hSB : SBw w) (hS : Small l0 l1) (h : SchAt w A0 c0 l0 A1 c1 l1) (hb : b.size ≤ 1000) :
  Calls Tryz.prog 29 #[schV A0 c0 l0 A1 c1 l1, .agg #[.string b, .bool li]] w fun e w' => e = .returned (.int .i64 (sizeF l0 l1 b li)) ∧ Below w.heap.size w w' := by
 rw [sizeF_eq]
 have PR : ∀ W, Below w.heap.size w W → Calls Tryz.prog 27 #[schV A0 c0 l0 A1 c1 l1, .string b] W fun e w' => ∃ nm B m d, e = .returned (.tuple #[.agg #[.string nm, .slice B m d], .bool (findS l0 b).isSome]) ∧ Below W.heap.size W w' := fun W hW => (record_calls b W hS (h.below hW)).mono fun e w' ⟨B, d, he, _, _, hb⟩ => ⟨_, B, _, d, he, hb⟩
 have PE : ∀ W, Below w.heap.size w W → Calls Tryz.prog 51 #[schV A0 c0 l0 A1 c1 l1, .string b] W fun e w' => ∃ nm B m d, e = .returned (.tuple #[.agg #[.string nm, .slice B m d], .bool (findE l1 b).isSome]) ∧ Below W.heap.size W w' := fun W hW => (enum_calls b W hS (h.below hW)).mono fun e w' ⟨B, d, he, hb⟩ => ⟨_, B, _, d, he, hb⟩
 generalize (findS l0 b).isSome = sB at PR ⊢
 generalize (findE l1 b).isSome = eB at PE ⊢
 have PR := Aside0.mk PR
 have PE := Aside0.mk PE
 obtain ⟨bm, hg, hgs, hlk⟩ := hSB.base
 have hm : b.size ≤ maxLen := by unfold maxLen; omega
 obtain ⟨W1, hW1⟩ : ∃ W1, W1 = (w.alloc (.cells #[.slice A0 l0.length c0, .slice A1 l1.length c1] 26)).alloc (.cells #[.string b, .bool li] 44) := ⟨_, rfl⟩
 have hb1 : Below w.heap.size w W1 := by rw [hW1]; exact below_alloc (below_alloc (Below.refl _ _) _) _
 have hg1 := pw_cell_below hb1 hg
 have hk1 := hlk W1 hb1 b hm
 have x0 : W1.cell? ⟨w.heap.size, 0, none⟩ = some (.slice A0 l0.length c0) := by rw [hW1]; simp
 have x1 : W1.cell? ⟨w.heap.size, 1, none⟩ = some (.slice A1 l1.length c1) := by rw [hW1]; simp
 have x2 : W1.cell? ⟨w.heap.size + 1, 0, none⟩ = some (.string b) := by rw [hW1]; simp
 have x3 : W1.cell? ⟨w.heap.size + 1, 1, none⟩ = some (.bool li) := by rw [hW1]; simp
 have PC := Aside0.mk (fun (W : World) (hW : Below W1.heap.size W1 W) => And.intro (pw_cell_below hW x0) (And.intro (pw_cell_below hW x1) (And.intro (pw_cell_below hW x2) (pw_cell_below hW x3))))
 have HW1 := Aside0.mk hW1
 have HB1 := Aside0.mk hb1
 generalize baseSize b = z at *
 clear hSB h hg hlk hb1 hW1 hS hb hm
 go_enter Tryz.func29, Tryz.ntmps29
 go_upto_region 1 with fail
 rw [← HW1.out]
 go_upto_region 3 with (go_at_call 51; refine (PE.out W1 HB1.out).mono ?_; rintro e W2 ⟨nm, B, m, d, rfl, hb2⟩; have HB2 := Aside0.mk hb2; clear hb2)
 obtain ⟨W3, hW3⟩ : ∃ W3, W3 = W2.alloc (.cells #[.string nm, .slice B m d] 70) := ⟨_, rfl⟩
 rw [← hW3]
 have HB3 := Aside0.mk (show Below W1.heap.size W1 W3 from by rw [hW3]; exact below_alloc HB2.out _)
 obtain ⟨y0, y1, y2, y3⟩ := PC.out W3 HB3.out
 clear hW3 x0 x1 x2 x3
 have HB4 := Aside0.mk (show Below w.heap.size w W3 from HB1.out.trans (HB3.out.mono HB1.out.size))
 go_upto_region 4 with (go_at_call 27; refine (PR.out W3 HB4.out).mono ?_; rintro e W4 ⟨nm4, B4, m4, d4, rfl, hb4⟩; have HB6' := Aside0.mk hb4; have HB5 := Aside0.mk (HB4.out.trans (hb4.mono HB4.out.size)); clear hb4)
 obtain ⟨W5, hW5⟩ : ∃ W5, W5 = W4.alloc (.cells #[.string nm4, .slice B4 m4 d4] 42) := ⟨_, rfl⟩
 rw [← hW5]
 have HB6 := Aside0.mk (show Below w.heap.size w W5 from by rw [hW5]; exact below_alloc HB5.out _)
 obtain ⟨y0, y1, y2, y3⟩ := PC.out W5 (by rw [hW5]; exact below_alloc (HB3.out.trans (HB6'.out.mono HB3.out.size)) _)
 clear hW5
 rcases Decidable.em (z = 0) with hz | hz
 ·subst hz
  cases eB <;> cases sB <;> cases li <;> (go_wp2_with fail; go_ret; exact ⟨rfl, HB6.out⟩)
 ·have hz1 : (z != 0) = true := by simp [hz]
  have hr : ∀ e s l, sizeB z e s l = if l = true ∨ s = true then 6 else if e = true then 3 else z := fun e s l => by unfold sizeB; rw [if_neg (fun h => hz h.1)]
  have HR := Aside0.mk hr
  rw [hz1]
  clear hr hz hz1
  cases eB <;> cases sB <;> cases li <;> (go_wp2_with fail; go_ret; exact ⟨by rw [HR.out]; simp, HB6.out⟩)
def mayB (eB li fB sh inB : Bool) : Bool := if (eB && !li) = true then inB else fB && sh
theorem mayF_eq (l0 : List SS) (l1 : List SE) (b : ByteArray) (li : Bool) (n : Int) : mayF l0 l1 b li n = mayB (findE l1 b).isSome li (decide (Fits n (sizeF l0 l1 b li))) (decide (-999999999999999999 ≤ n ∧ n ≤ 999999999999999999)) (decide (0 ≤ n ∧ n ≤ (((findE l1 b).getD zE).f1.length : Int) - 1)) := by
 unfold mayF mayB
 cases findE l1 b <;> cases li <;> rfl
set_option maxHeartbeats 4000000 in
set_option maxRecDepth 100000 in
theorem may_calls (b : ByteArray) (li : Bool) (n : Int) (w : World) (hSB : SBw w) (hS : Small l0 l1) (h : SchAt w A0 c0 l0 A1 c1 l1) (hb : b.size ≤ 1000) (hz : 0 ≤ sizeF l0 l1 b li) :
  Calls Tryz.prog 47 #[schV A0 c0 l0 A1 c1 l1, .agg #[.string b, .bool li], .int .i64 n] w fun e w' => e = .returned (.bool (mayF l0 l1 b li n)) ∧ Below w.heap.size w w' := by
 rw [mayF_eq]
 have hz6 : sizeF l0 l1 b li ≤ 6 := by
  rw [sizeF_eq]
  unfold sizeB baseSize
  (repeat' split) <;> omega
 have PS : ∀ W, Below w.heap.size w W → Calls Tryz.prog 29 #[schV A0 c0 l0 A1 c1 l1, .agg #[.string b, .bool li]] W fun e w' => e = .returned (.int .i64 (sizeF l0 l1 b li)) ∧ Below W.heap.size W w' := fun W hW => size_calls b li W (hSB.mv hW) hS (h.below hW) hb
 have PE : ∀ W, Below w.heap.size w W → Calls Tryz.prog 51 #[schV A0 c0 l0 A1 c1 l1, .string b] W fun e w' => ∃ nm B d, e = .returned (.tuple #[.agg #[.string nm, .slice B (((findE l1 b).getD zE).f1.length) d], .bool (findE l1 b).isSome]) ∧ Below W.heap.size W w' := fun W hW => (enum_calls b W hS (h.below hW)).mono fun e w' ⟨B, d, he, hb⟩ => ⟨_, B, d, he, hb⟩
 have hm : ((findE l1 b).getD zE).f1.length ≤ 1000 := by
  cases hf : findE l1 b with
  | none => exact Nat.zero_le _
  | some e =>
   have hmem := List.mem_of_find?_eq_some hf
   have := (hS.s1 e hmem).2.1
   show e.f1.length ≤ 1000
   omega
 generalize ((findE l1 b).getD zE).f1.length = m at PE hm ⊢
 generalize (findE l1 b).isSome = eB at PE ⊢
 generalize sizeF l0 l1 b li = sz at PS hz hz6 ⊢
 have PF : ∀ W, Below w.heap.size w W → Calls Tryz.prog 21 #[.int .i64 n, .int .i64 sz] W fun e w' => e = .returned (.bool (decide (Fits n sz))) ∧ Drawn0 W w' := fun W hW => impl_fits.calls n sz _ W (hSB.mv hW) (by unfold impl_fits.f; rw [if_pos ⟨hz, hz6⟩])
 generalize decide (Fits n sz) = fB at PF ⊢
 have PH : ∀ W, Calls Tryz.prog 68 #[.int .i64 n] W fun e w' => e = .returned (.bool (decide (-999999999999999999 ≤ n ∧ n ≤ 999999999999999999))) ∧ Drawn0 W w' := fun W => impl_short.calls n _ W (by unfold impl_short.f; rw [in_f, Option.bind_some])
 generalize decide (-999999999999999999 ≤ n ∧ n ≤ 999999999999999999) = sh at PH ⊢
 have PI : ∀ W, Calls Tryz.prog 20 #[.int .i64 n, .int .i64 0, .int .i64 ((m : Int) - 1)] W fun e w' => e = .returned (.bool (decide (0 ≤ n ∧ n ≤ (m : Int) - 1))) ∧ Drawn0 W w' := fun W => impl_in.calls n 0 _ _ W (in_f _ _ _)
 generalize decide (0 ≤ n ∧ n ≤ (m : Int) - 1) = inB at PI ⊢
 have PS := Aside0.mk PS
 have PE := Aside0.mk PE
 have PF := Aside0.mk PF
 have hw : IntKind.i64.wrap ((m : Int) - 1) = (m : Int) - 1 := by rw [IntKind.wrap_i64]; omega
 obtain ⟨W1, hW1⟩ : ∃ W1, W1 = (w.alloc (.cells #[.slice A0 l0.length c0, .slice A1 l1.length c1] 26)).alloc (.cells #[.string b, .bool li] 44) := ⟨_, rfl⟩
 have hb1 : Below w.heap.size w W1 := by rw [hW1]; exact below_alloc (below_alloc (Below.refl _ _) _) _
 have x0 : W1.cell? ⟨w.heap.size, 0, none⟩ = some (.slice A0 l0.length c0) := by rw [hW1]; simp
 have x1 : W1.cell? ⟨w.heap.size, 1, none⟩ = some (.slice A1 l1.length c1) := by rw [hW1]; simp
 have x2 : W1.cell? ⟨w.heap.size + 1, 0, none⟩ = some (.string b) := by rw [hW1]; simp
 have x3 : W1.cell? ⟨w.heap.size + 1, 1, none⟩ = some (.bool li) := by rw [hW1]; simp
 have PC := Aside0.mk (fun (W : World) (hW : Below W1.heap.size W1 W) => And.intro (pw_cell_below hW x0) (And.intro (pw_cell_below hW x1) (And.intro (pw_cell_below hW x2) (pw_cell_below hW x3))))
 have HW1 := Aside0.mk hW1
 have HB1 := Aside0.mk hb1
 clear hSB h hb1 hW1 hS hb hz hz6
 go_enter Tryz.func47, Tryz.ntmps47
 go_upto_region 1 with fail
 rw [← HW1.out]
 go_upto_region 2 with (go_at_call 51; refine (PE.out W1 HB1.out).mono ?_; rintro e W2 ⟨nm, B, d, rfl, hb2⟩; have HB2 := Aside0.mk hb2; clear hb2)
 obtain ⟨W3, hW3⟩ : ∃ W3, W3 = W2.alloc (.cells #[.string nm, .slice B m d] 70) := ⟨_, rfl⟩
 rw [← hW3]
 have HB3 := Aside0.mk (show Below W1.heap.size W1 W3 from by rw [hW3]; exact below_alloc HB2.out _)
 have z0 : W3.cell? ⟨W2.heap.size, 0, none⟩ = some (.string nm) := by rw [hW3]; simp
 have z1 : W3.cell? ⟨W2.heap.size, 1, none⟩ = some (.slice B m d) := by rw [hW3]; simp
 obtain ⟨y0, y1, y2, y3⟩ := PC.out W3 HB3.out
 clear hW3 x0 x1 x2 x3
 have HB4 := Aside0.mk (show Below w.heap.size w W3 from HB1.out.trans (HB3.out.mono HB1.out.size))
 have hPS := PS.out W3 HB4.out
 have PF4 := Aside0.mk (fun (W : World) (hW : Below W3.heap.size W3 W) => PF.out W (HB4.out.trans (hW.mono HB4.out.size)))
 clear PF PS PE PC
 rcases Bool.eq_false_or_eq_true (eB && !li) with hc | hc
 ·obtain ⟨rfl, rfl⟩ : eB = true ∧ li = false := by revert hc; cases eB <;> cases li <;> simp
  clear hPS PF4 hc
  go_wp2_with (go_at_call 20; refine (PI _).mono ?_; rintro e W4 ⟨rfl, hd⟩; have HD := Aside0.mk hd; clear hd)
  go_ret
  exact ⟨rfl, HB4.out.trans (HD.out.below.mono HB4.out.size)⟩
 ·have hmay : mayB eB li fB sh inB = (fB && sh) := by unfold mayB; rw [hc]; rfl
  have HM := Aside0.mk hmay
  clear hmay
  rcases (by revert hc; cases eB <;> cases li <;> simp : (eB = false ∧ li = false) ∨ (eB = false ∧ li = true) ∨ (eB = true ∧ li = true)) with ⟨rfl, rfl⟩ | ⟨rfl, rfl⟩ | ⟨rfl, rfl⟩
  all_goals
   clear hc
   cases fB
   ·go_wp2_with (first
     | (go_at_call 29; refine hPS.mono ?_; clear hPS; rintro e W4 ⟨rfl, hb4⟩; have HB5 := Aside0.mk hb4; clear hb4)
     | (go_at_call 21; refine (PF4.out _ HB5.out).mono ?_; rintro e W5 ⟨rfl, hd⟩; have HD := Aside0.mk hd; clear hd))
    go_ret
    exact ⟨by rw [HM.out]; rfl, HB4.out.trans ((HB5.out.trans (HD.out.below.mono HB5.out.size)).mono HB4.out.size)⟩
   ·go_wp2_with (first
     | (go_at_call 29; refine hPS.mono ?_; clear hPS; rintro e W4 ⟨rfl, hb4⟩; have HB5 := Aside0.mk hb4; clear hb4)
     | (go_at_call 21; refine (PF4.out _ HB5.out).mono ?_; rintro e W5 ⟨rfl, hd⟩; have HD := Aside0.mk hd; clear hd)
     | (go_at_call 68; refine (PH _).mono ?_; clear PH; rintro e W6 ⟨rfl, hd⟩; have HD6 := Aside0.mk hd; clear hd))
    go_ret
    exact ⟨by rw [HM.out]; rfl, HB4.out.trans ((HB5.out.trans ((HD.out.below.trans (HD6.out.below.mono HD.out.below.size)).mono HB5.out.size)).mono HB4.out.size)⟩
end
end Go.Proofs.YtjeipkfeihahdaaGreatDoor
end
section
namespace Go.Proofs.YtjeipkfeihahdaaGreatDoor
set_option linter.unusedVariables false
set_option linter.unusedSimpArgs false
open Go.RowKit Go.Proofs.YtjeipkfeihahdaaGreatDoor.P Go.Proofs.YtjeipkfeihahdaaGreatDoor.Lem Go.Proofs.YtjeipkfeihahdaaGreatDoorW.PrintWords Go.Proofs.YtjeipkfeihahdaaGreatDoorW.PrintLast Go.Proofs.YtjeipkfeihahdaaGreatDoorW.PrintMore
section
variable {A0 A1 : Option Addr} {c0 c1 : Nat} {l0 : List SS} {l1 : List SE}
theorem struct_at {W : World} (h : Kd.C k42 W A0 l0.length l0) (i : Nat) (hi : i < l0.length) : ∃ ad A c, A0 = some ad ∧ W.cell? (ad.add (i * 2)) = some (.string l0[i].f0) ∧ W.cell? ⟨(ad.add (i * 2)).block, (ad.add (i * 2)).off + 1, none⟩ = some (.slice A l0[i].f1.length c) ∧ l0[i].f1.length ≤ c ∧ Kd.C k46 W A l0[i].f1.length l0[i].f1 := by
 obtain ⟨ad, A, c, e, h1, h2, h3, h4⟩ := at_T42 h (i : Int) (by omega) (by omega)
 rw [rdS_at l0 i hi] at h1 h2 h3 h4
 exact ⟨ad, A, c, e, h1, h2, h3, h4⟩
theorem decl_at {W : World} {A : Option Addr} {l : List SD} (h : Kd.C k46 W A l.length l) (i : Nat) (hi : i < l.length) : ∃ ad, A = some ad ∧ W.cell? (ad.add (i * 6)) = some (.string l[i].f0) ∧ W.cell? ⟨(ad.add (i * 6)).block, (ad.add (i * 6)).off + 1, none⟩ = some (.int .i64 l[i].f1) ∧ W.cell? ⟨(ad.add (i * 6)).block, (ad.add (i * 6)).off + 2, none⟩ = some (.string l[i].f2.f0) ∧ W.cell? ⟨(ad.add (i * 6)).block, (ad.add (i * 6)).off + 3, none⟩ = some (.bool l[i].f2.f1) ∧ W.cell? ⟨(ad.add (i * 6)).block, (ad.add (i * 6)).off + 4, none⟩ = some (.bool l[i].f3) ∧ W.cell? ⟨(ad.add (i * 6)).block, (ad.add (i * 6)).off + 5, none⟩ = some (.int .i64 l[i].f4) := by
 obtain ⟨ad, e, h1, h2, h3, h4, h5, h6⟩ := at_T46 h (i : Int) (by omega) (by omega)
 rw [rdD_at l i hi] at h1 h2 h3 h4 h5 h6
 exact ⟨ad, e, h1, h2, h3, h4, h5, h6⟩
theorem take_all {α : Type} (l : List α) (p : α → Bool) (i : Nat) (hi : i < l.length) : (l.take (i + 1)).all p = ((l.take i).all p && p l[i]) := by
 rw [List.take_add_one, List.all_append]
 simp [hi]
theorem all_false {α : Type} (l : List α) (p : α → Bool) (i : Nat) (hi : i < l.length) (h : p l[i] = false) : l.all p = false := by
 rw [List.all_eq_false]
 exact ⟨l[i], List.getElem_mem _, by simp [h]⟩
set_option maxHeartbeats 4000000 in
set_option maxRecDepth 100000 in
theorem every_calls (g : Nat) (cb : Array Value) (eg : ∀ args w, (callFunc g args).run Tryz.prog w = .ok (.enter g args) w) (p : SD → Bool) (w : World) (hS : Small l0 l1) (h : SchAt w A0 c0 l0 A1 c1 l1)
  (hp : ∀ W, Below w.heap.size w W → ∀ d ∈ l0, ∀ x ∈ d.f1, Calls Tryz.prog g (#[aggD x] ++ cb) W fun e w' => e = .returned (.bool (p x)) ∧ Below W.heap.size W w') :
  Calls Tryz.prog 44 #[schV A0 c0 l0 A1 c1 l1, .func (.func g) #[] cb] w fun e w' => e = .returned (.bool (allD l0 p)) ∧ Below w.heap.size w w' := by
 have n0 := hS.n0
 have nd : ∀ d ∈ l0, d.f1.length ≤ 10 := fun d hd => (hS.s0 d hd).2.1
 have PS := Aside0.mk (fun (W : World) (hW : Below w.heap.size w W) => struct_at (Kd.C_below h.h0 hW))
 have HP := Aside0.mk hp
 have ND := Aside0.mk nd
 clear hp nd h hS
 go_enter Tryz.func44, Tryz.ntmps44
 go_upto_region 2 with fail
 obtain ⟨W1, hW1⟩ : ∃ W1, W1 = w.alloc (.cells #[.slice A0 l0.length c0, .slice A1 l1.length c1] 26) := ⟨_, rfl⟩
 rw [← hW1]
 have HB1 := Aside0.mk (show Below w.heap.size w W1 from by rw [hW1]; exact below_alloc (Below.refl _ _) _)
 clear hW1
 go_loopg [12] l0.length (fun gg v12 wr => ∃ i : Nat, v12 = .int .i64 i ∧ i ≤ l0.length ∧ l0.length - i ≤ gg ∧ Aside0 (Below w.heap.size w wr) ∧ Aside0 ((l0.take i).all (fun d => d.f1.all p) = true))
 case atStart => exact ⟨0, rfl, by omega, by omega, HB1, ⟨rfl⟩⟩
 case round =>
  obtain ⟨i, rfl, hi, hgg, HB2, HA⟩ := hrel
  obtain ⟨W2, rfl⟩ : ∃ W2, W2 = wr := ⟨_, rfl⟩
  by_cases hlt : i < l0.length
  ·obtain ⟨ad, A, c, rfl, h1, h2, h3, h4⟩ := PS.out W2 HB2.out i hlt
   have hlt' : (i : Int) < (l0.length : Int) := by omega
   obtain ⟨d, hd⟩ : ∃ d, d = l0[i] := ⟨_, rfl⟩
   have hdm : d ∈ l0 := by rw [hd]; exact List.getElem_mem _
   have hd10 := ND.out d hdm
   rw [← hd] at h1 h2 h3 h4
   have HD := Aside0.mk hd
   have HM := Aside0.mk hdm
   clear hd hdm h3
   obtain ⟨W3, hW3⟩ : ∃ W3, W3 = W2.alloc (.cells #[.string d.f0, .slice A d.f1.length c] 42) := ⟨_, rfl⟩
   have hb3 : Below W2.heap.size W2 W3 := by rw [hW3]; exact below_alloc (Below.refl _ _) _
   have x0 : W3.cell? ⟨W2.heap.size, 0, none⟩ = some (.string d.f0) := by rw [hW3]; simp
   have x1 : W3.cell? ⟨W2.heap.size, 1, none⟩ = some (.slice A d.f1.length c) := by rw [hW3]; simp
   have HW3 := Aside0.mk hW3
   have HB3 := Aside0.mk (show Below w.heap.size w W3 from HB2.out.trans (hb3.mono HB2.out.size))
   have PD := Aside0.mk (fun (W : World) (hW : Below W3.heap.size W3 W) => decl_at (Kd.C_below (Kd.C_below h4 hb3) hW))
   clear hW3 hb3 h4
   go_upto_region 4 with fail
   rw [← HW3.out]
   go_upto_region 5 with fail
   clear x0 x1 h1 h2
   go_loopg [19] d.f1.length (fun gg v19 wr => ∃ j : Nat, v19 = .int .i64 j ∧ j ≤ d.f1.length ∧ d.f1.length - j ≤ gg ∧ Aside0 (Below W3.heap.size W3 wr) ∧ Aside0 ((d.f1.take j).all p = true))
   case atStart => exact ⟨0, rfl, by omega, by omega, ⟨Below.refl _ _⟩, ⟨rfl⟩⟩
   case round =>
    obtain ⟨j, rfl, hj, hgj, HB4, HAj⟩ := hrel
    by_cases hltj : j < d.f1.length
    ·obtain ⟨ad2, rfl, e0, e1, e2, e3, e4, e5⟩ := PD.out wr HB4.out j hltj
     have hltj' : (j : Int) < (d.f1.length : Int) := by omega
     obtain ⟨x, hx⟩ : ∃ x, x = d.f1[j] := ⟨_, rfl⟩
     have hxm : x ∈ d.f1 := by rw [hx]; exact List.getElem_mem _
     rw [← hx] at e0 e1 e2 e3 e4 e5
     have hp5 := HP.out (wr.alloc (blkD x)) (below_alloc (HB3.out.trans (HB4.out.mono HB3.out.size)) _) d HM.out x hxm
     obtain ⟨f0, f1, f2, f3, f4, f5⟩ := at6_new wr x
     have HX := Aside0.mk hx
     clear hx hxm
     obtain ⟨px, hpx0⟩ : ∃ q, q = p x := ⟨_, rfl⟩
     rw [← hpx0] at hp5
     have HPX := Aside0.mk hpx0.symm
     clear hpx0
     cases px
     ·go_wp2_with (first | (go_at_fn g; refine hp5.mono ?_; clear hp5; rintro e W5 ⟨rfl, hb5⟩; have HB5 := Aside0.mk hb5; clear hb5))
      go_ret
      have hpx := HPX.out
      refine ⟨?_, HB3.out.trans ((HB4.out.trans ((below_alloc (Below.refl _ _) _).trans (HB5.out.mono (by rw [World.size_alloc]; exact Nat.le_succ _)) |>.mono HB4.out.size)).mono HB3.out.size)⟩
      have e1 : d.f1.all p = false := all_false d.f1 p j hltj (by rw [← HX.out]; exact hpx)
      have e2 : allD l0 p = false := all_false l0 _ i hlt (by rw [← HD.out]; exact e1)
      rw [e2]; rfl
     ·go_wp2_with (first | (go_at_fn g; refine hp5.mono ?_; clear hp5; rintro e W5 ⟨rfl, hb5⟩; have HB5 := Aside0.mk hb5; clear hb5))
      have hpx := HPX.out
      go_roundg (d.f1.length - (j + 1))
      case measure => omega
      case rel =>
       refine ⟨j + 1, by go_num, by omega, by omega, ⟨HB4.out.trans ((below_alloc (Below.refl _ _) _).trans (HB5.out.mono (by rw [World.size_alloc]; exact Nat.le_succ _)) |>.mono HB4.out.size)⟩, ⟨?_⟩⟩
       rw [take_all _ _ j hltj, HAj.out, ← HX.out, hpx]
       rfl
    ·obtain rfl : j = d.f1.length := by omega
     go_wp2_with fail
     go_roundg (l0.length - (i + 1))
     case measure => omega
     case rel =>
      refine ⟨i + 1, by go_num, by omega, by omega, ⟨HB3.out.trans (HB4.out.mono HB3.out.size)⟩, ⟨?_⟩⟩
      have e1 := HAj.out
      rw [List.take_length] at e1
      rw [take_all _ _ i hlt, HA.out, ← HD.out, e1]
      rfl
  ·obtain rfl : i = l0.length := by omega
   go_wp2_with fail
   go_ret
   have e1 := HA.out
   rw [List.take_length] at e1
   exact ⟨by unfold allD; rw [e1]; rfl, HB2.out⟩
end
end Go.Proofs.YtjeipkfeihahdaaGreatDoor
end
section
namespace Go.Proofs.YtjeipkfeihahdaaGreatDoor
set_option linter.unusedVariables false
set_option linter.unusedSimpArgs false
open Go.RowKit Go.Proofs.YtjeipkfeihahdaaGreatDoor.P Go.Proofs.YtjeipkfeihahdaaGreatDoor.Lem Go.Proofs.YtjeipkfeihahdaaGreatDoorW.PrintWords Go.Proofs.YtjeipkfeihahdaaGreatDoorW.PrintLast Go.Proofs.YtjeipkfeihahdaaGreatDoorW.PrintMore
theorem str_at {W : World} {A : Option Addr} {l : List ByteArray} (h : Kd.C Kd.string W A l.length l) (i : Nat) (hi : i < l.length) : ∃ ad, A = some ad ∧ W.cell? (ad.add i) = some (.string l[i]) := by
 obtain ⟨ad, cs, e, hl, hK, hcell⟩ := Kd.C_get h ⟨#[]⟩ (i : Int) (by omega) (by omega)
 have hk : cs = [.string (l.getD (i : Int).toNat ⟨#[]⟩)] := hK
 subst hk
 have := hcell 0 _ rfl
 exact ⟨ad, e, by simpa [Kd.string, Kd.scalar, List.getD_eq_getElem?_getD, hi] using this⟩
theorem lot_at {W : World} {A : Option Addr} {l : List (List ByteArray)} (h : Kd.C (Kd.slice 9 Kd.string) W A l.length l) (i : Nat) (hi : i < l.length) : ∃ ad B c, A = some ad ∧ W.cell? (ad.add i) = some (.slice B l[i].length c) ∧ l[i].length ≤ c ∧ Kd.C Kd.string W B l[i].length l[i] := by
 obtain ⟨ad, cs, e, hl, ⟨B, c, hcs, hlc, hC⟩, hcell⟩ := Kd.C_get h [] (i : Int) (by omega) (by omega)
 have hg : l.getD (i : Int).toNat [] = l[i] := by simp [List.getD_eq_getElem?_getD, hi]
 rw [hg] at hcs hlc hC
 subst hcs
 have := hcell 0 _ rfl
 exact ⟨ad, B, c, e, by simpa [Kd.slice] using this, hlc, hC⟩
theorem name_calls (s : ByteArray) (hs : s.size ≤ 1000) (W : World) : Calls Tryz.prog 62 #[.string s] W fun e w' => e = .returned (.bool (nameOk s)) ∧ Below W.heap.size W w' :=
 (impl_isName.calls 1002 s _ W (isName_f s hs 1002 (Nat.le_refl _))).mono fun _ _ ⟨h1, h2⟩ => ⟨h1, h2.below⟩
set_option maxHeartbeats 1000000 in
theorem closureForm (x : SD) (hs : x.f2.f0.size ≤ 1000) (W : World) : Calls Tryz.prog 63 #[aggD x] W fun e w' => e = .returned (.bool (nameOk x.f2.f0)) ∧ Below W.heap.size W w' := by
 have hn := name_calls x.f2.f0 hs (W.alloc (blkD x))
 obtain ⟨f0, f1, f2, f3, f4, f5⟩ := at6_new W x
 generalize nameOk x.f2.f0 = r at hn ⊢
 go_enter Tryz.func63, Tryz.ntmps63
 go_wp2_with (go_at_call 62; refine hn.mono ?_; clear hn; rintro e W2 ⟨rfl, hb⟩; have HB := Aside0.mk hb; clear hb)
 go_ret
 exact ⟨rfl, (below_alloc (Below.refl _ _) _).trans (HB.out.mono (by rw [World.size_alloc]; exact Nat.le_succ _))⟩
section
variable {A0 A1 : Option Addr} {c0 c1 : Nat} {l0 : List SS} {l1 : List SE}
/-- Formed as it should be. -/
def formedF (l0 : List SS) (l1 : List SE) : Bool :=
 decide (1 ≤ l0.length ∧ l0.length ≤ 5) && (decide (l1.length ≤ 3) && ((allOf (lotsOf l0 l1 ++ [topOf l0 l1])).all nameOk && ((lotsOf l0 l1).all (fun l => decide (1 ≤ l.length ∧ l.length ≤ 8)) && ((topOf l0 l1).all (fun s => baseSize s == 0) && allD l0 (fun x => nameOk x.f2.f0)))))
theorem formed_f1 (h : (allOf (lotsOf l0 l1 ++ [topOf l0 l1])).all nameOk = false) : formedF l0 l1 = false := by unfold formedF; rw [h]; simp
theorem formed_f2 (h : (lotsOf l0 l1).all (fun l => decide (1 ≤ l.length ∧ l.length ≤ 8)) = false) : formedF l0 l1 = false := by unfold formedF; rw [h]; simp
theorem formed_f3 (h : (topOf l0 l1).all (fun s => baseSize s == 0) = false) : formedF l0 l1 = false := by unfold formedF; rw [h]; simp
theorem formed_f4 (g0 : 1 ≤ l0.length ∧ l0.length ≤ 5) (g1 : l1.length ≤ 3) (h1 : (allOf (lotsOf l0 l1 ++ [topOf l0 l1])).all nameOk = true) (h2 : (lotsOf l0 l1).all (fun l => decide (1 ≤ l.length ∧ l.length ≤ 8)) = true) (h3 : (topOf l0 l1).all (fun s => baseSize s == 0) = true) : formedF l0 l1 = allD l0 (fun x => nameOk x.f2.f0) := by
 unfold formedF
 rw [h1, h2, h3, decide_eq_true g0, decide_eq_true g1]
 simp
set_option maxHeartbeats 4000000 in
set_option maxRecDepth 100000 in
theorem formed_calls (w : World) (hSB : SBw w) (hS : Small l0 l1) (h : SchAt w A0 c0 l0 A1 c1 l1) :
  Calls Tryz.prog 39 #[schV A0 c0 l0 A1 c1 l1] w fun e w' => e = .returned (.bool (formedF l0 l1)) ∧ Below w.heap.size w w' := by
 obtain ⟨hLB, hLN⟩ := lots_bound l0 l1 hS
 have n0 := hS.n0
 have n1 := hS.n1
 have PI := fun (W : World) (a : Int) (b c : Int) => impl_in.calls a b c _ W (in_f a b c)
 have PN0 := fun (W : World) (hW : Below w.heap.size w W) => names_calls W hS (h.below hW)
 obtain ⟨m, hm⟩ : ∃ m, m = (lotsOf l0 l1).length := ⟨_, rfl⟩
 have hm1 : (lotsOf l0 l1 ++ [topOf l0 l1]).length = m + 1 := by rw [hm]; simp
 obtain ⟨LL, hLL⟩ : ∃ LL, LL = lotsOf l0 l1 ++ [topOf l0 l1] := ⟨_, rfl⟩
 obtain ⟨AL, hAL⟩ : ∃ AL, AL = allOf LL := ⟨_, rfl⟩
 simp only [← hLL] at PN0 hm1 hLB hLN
 simp only [← hAL, hm1] at PN0
 have PN := Aside0.mk PN0
 have hA20 : ∀ s ∈ AL, s.size ≤ 1000 := fun s hs => by
  rw [hAL] at hs
  unfold allOf at hs
  obtain ⟨l, hl, hsl⟩ := List.mem_flatten.1 hs
  have := (hLB l hl).2 s hsl
  omega
 have hALn : AL.length ≤ 1000000 := by rw [hAL]; have := allOf_bound LL 20 (fun l hl => (hLB l hl).1); omega
 have hB8 : ∀ l ∈ LL, l.length ≤ 20 := fun l hl => (hLB l hl).1
 have hTk : LL.take m = lotsOf l0 l1 := by rw [hLL, hm, List.take_left]
 have hLt : ∀ h, LL[m]'h = topOf l0 l1 := fun h => by simp only [hLL]; simp [hm]
 have hT20 : ∀ s ∈ topOf l0 l1, s.size ≤ 1000 := fun s hs => by have := (hLB (topOf l0 l1) (by rw [hLL]; simp)).2 s hs; omega
 have PV := Aside0.mk (fun (W : World) (hW : Below w.heap.size w W) => every_calls 63 #[] (enters_of Tryz.func63 (by kernel_rfl) rfl) (fun x => nameOk x.f2.f0) W hS (h.below hW) (fun W' hW' d hd x hx => by
  have := closureForm x (by have := ((hS.s0 d hd).2.2 x hx).2.1; omega) W'
  simpa using this))
 have HLB := Aside0.mk hLB
 obtain ⟨bm, hg, hgs, hlk⟩ := hSB.base
 have PG := Aside0.mk (fun (W : World) (hW : Below w.heap.size w W) (q : ByteArray) (hq : q.size ≤ 1000) => And.intro (pw_cell_below hW hg) (hlk W hW q (by unfold maxLen; omega)))
 have HLL := Aside0.mk hLL
 have HAL := Aside0.mk hAL
 have HA20 := Aside0.mk hA20
 have HB8 := Aside0.mk hB8
 have HTk := Aside0.mk hTk
 have HLt := Aside0.mk hLt
 have HT20 := Aside0.mk hT20
 have HM := Aside0.mk hm
 have HM1 := Aside0.mk hm1
 obtain ⟨r, hr⟩ : ∃ r, r = formedF l0 l1 := ⟨_, rfl⟩
 rw [← hr]
 have HR := Aside0.mk hr
 clear hSB hg hlk h hS hLB hr hLL hAL hA20 hB8 hTk hLt hT20 hm PN0
 go_enter Tryz.func39, Tryz.ntmps39
 obtain ⟨W1, hW1⟩ : ∃ W1, W1 = w.alloc (.cells #[.slice A0 l0.length c0, .slice A1 l1.length c1] 26) := ⟨_, rfl⟩
 have hb1 : Below w.heap.size w W1 := by rw [hW1]; exact below_alloc (Below.refl _ _) _
 have x0 : W1.cell? ⟨w.heap.size, 0, none⟩ = some (.slice A0 l0.length c0) := by rw [hW1]; simp
 have x1 : W1.cell? ⟨w.heap.size, 1, none⟩ = some (.slice A1 l1.length c1) := by rw [hW1]; simp
 have PC := Aside0.mk (fun (W : World) (hW : Below W1.heap.size W1 W) => And.intro (pw_cell_below hW x0) (pw_cell_below hW x1))
 have HW1 := Aside0.mk hW1
 have HB1 := Aside0.mk hb1
 clear hW1 hb1
 go_upto_region 1 with fail
 rw [← HW1.out]
 by_cases g0 : 1 ≤ l0.length ∧ l0.length ≤ 5
 case neg =>
  have hin := PI W1 (l0.length : Int) 1 5
  rw [decide_eq_false (by omega)] at hin
  have hrF : r = false := by rw [HR.out]; unfold formedF; rw [decide_eq_false g0]; rfl
  subst hrF
  clear g0
  go_wp2_with (go_at_call 20; refine hin.mono ?_; clear hin; rintro e W2 ⟨rfl, hd⟩; have HD := Aside0.mk hd; clear hd)
  go_ret
  exact ⟨rfl, HB1.out.trans (HD.out.below.mono HB1.out.size)⟩
 case pos =>
  have hin := PI W1 (l0.length : Int) 1 5
  rw [decide_eq_true (by omega)] at hin
  have HG0 := Aside0.mk g0
  by_cases g1 : l1.length ≤ 3
  case neg =>
   have g1' : (3 : Int) < (l1.length : Int) := by omega
   have hrF : r = false := by rw [HR.out]; unfold formedF; rw [decide_eq_false g1]; simp
   subst hrF
   clear g1
   go_wp2_with (go_at_call 20; refine hin.mono ?_; clear hin; rintro e W2 ⟨rfl, hd⟩; have HD := Aside0.mk hd; clear hd; obtain ⟨y0, y1⟩ := PC.out W2 HD.out.below)
   go_ret
   exact ⟨rfl, HB1.out.trans (HD.out.below.mono HB1.out.size)⟩
  case pos =>
   have g1' : ¬ (3 : Int) < (l1.length : Int) := by omega
   have HG1 := Aside0.mk g1
   clear g1
   go_upto_region 3 with (go_at_call 20; refine hin.mono ?_; clear hin; rintro e W2 ⟨rfl, hd⟩; have HD := Aside0.mk hd; clear hd; obtain ⟨y0, y1⟩ := PC.out W2 HD.out.below)
   have HB2 := Aside0.mk (show Below w.heap.size w W2 from HB1.out.trans (HD.out.below.mono HB1.out.size))
   go_upto_region 4 with (go_at_call 40; refine (PN.out W2 HB2.out).mono ?_; rintro e W3 ⟨B0, d0, B1, d1, rfl, hC0, hd1, hC1, hb3⟩; have HC0 := Aside0.mk hC0; have HC1 := Aside0.mk hC1; have HB3 := Aside0.mk hb3; clear hC0 hC1 hb3)
   have HB4 := Aside0.mk (show Below w.heap.size w W3 from HB2.out.trans (HB3.out.mono HB2.out.size))
   have HB13 := Aside0.mk (show Below W1.heap.size W1 W3 from HD.out.below.trans (HB3.out.mono HD.out.below.size))
   have SA := Aside0.mk (fun (W : World) (hW : Below W3.heap.size W3 W) => str_at (Kd.C_below HC0.out hW))
   clear y0 y1 x0 x1
   go_upto_region 5 with fail
   go_loopg [31] AL.length (fun gg v31 wr => ∃ i : Nat, v31 = .int .i64 i ∧ i ≤ AL.length ∧ AL.length - i ≤ gg ∧ Aside0 (Below W3.heap.size W3 wr) ∧ Aside0 ((AL.take i).all nameOk = true))
   case atStart => exact ⟨0, rfl, by omega, by omega, ⟨Below.refl _ _⟩, ⟨rfl⟩⟩
   case round =>
    obtain ⟨i, rfl, hi, hgg, HB5, HA⟩ := hrel
    by_cases hlt : i < AL.length
    ·obtain ⟨ad, rfl, hcell⟩ := SA.out wr HB5.out i hlt
     have hlt' : (i : Int) < (AL.length : Int) := by omega
     obtain ⟨q, hq⟩ : ∃ q, q = AL[i] := ⟨_, rfl⟩
     rw [← hq] at hcell
     have hn := name_calls q (by rw [hq]; exact HA20.out _ (List.getElem_mem _)) wr
     obtain ⟨bq, hbq⟩ : ∃ b, b = nameOk q := ⟨_, rfl⟩
     rw [← hbq] at hn
     have HQ := Aside0.mk hq
     have HBQ := Aside0.mk hbq
     clear hq hbq
     cases bq
     ·have hrF : r = false := by
       rw [HR.out]
       refine formed_f1 (?_)
       rw [← HLL.out, ← HAL.out]
       exact all_false _ _ i hlt (by rw [← HQ.out]; exact HBQ.out.symm)
      subst hrF
      go_wp2_with (go_at_call 62; refine hn.mono ?_; clear hn; rintro e W6 ⟨rfl, hb6⟩; have HB6 := Aside0.mk hb6; clear hb6)
      go_ret
      exact ⟨rfl, HB4.out.trans ((HB5.out.trans (HB6.out.mono HB5.out.size)).mono HB4.out.size)⟩
     ·go_wp2_with (go_at_call 62; refine hn.mono ?_; clear hn; rintro e W6 ⟨rfl, hb6⟩; have HB6 := Aside0.mk hb6; clear hb6)
      go_roundg (AL.length - (i + 1))
      case measure => omega
      case rel => exact ⟨i + 1, by go_num, by omega, by omega, ⟨HB5.out.trans (HB6.out.mono HB5.out.size)⟩, ⟨by rw [take_all _ _ i hlt, HA.out, ← HQ.out, ← HBQ.out]; rfl⟩⟩
    ·obtain rfl : i = AL.length := by omega
     have hA1 := HA.out
     rw [List.take_length] at hA1
     have HA1 := Aside0.mk hA1
     clear hA1 HA SA HC0
     obtain ⟨W5, rfl⟩ : ∃ W5, W5 = wr := ⟨_, rfl⟩
     have SL := Aside0.mk (fun (W : World) (hW : Below W5.heap.size W5 W) => lot_at (l := LL) (by have := Kd.C_below HC1.out (HB5.out.trans (hW.mono HB5.out.size)); rwa [← HM1.out] at this))
     have hwm : IntKind.i64.wrap (((m + 1 : Nat) : Int) - 1) = (m : Int) := by rw [IntKind.wrap_i64]; omega
     have hmd : (m : Int) ≤ (d1 : Int) := by omega
     go_upto_region 11 with fail
     go_loopg [45] m (fun gg v45 wr => ∃ i : Nat, v45 = .int .i64 i ∧ i ≤ m ∧ m - i ≤ gg ∧ Aside0 (Below W5.heap.size W5 wr) ∧ Aside0 ((LL.take i).all (fun l => decide (1 ≤ l.length ∧ l.length ≤ 8)) = true))
     case atStart => exact ⟨0, rfl, by omega, by omega, ⟨Below.refl _ _⟩, ⟨rfl⟩⟩
     case round =>
      obtain ⟨i, rfl, hi, hgg, HB6, HA⟩ := hrel
      by_cases hlt : i < m
      ·have hltL : i < LL.length := by omega
       obtain ⟨ad, B, c, rfl, hcell, hlc, _⟩ := SL.out wr HB6.out i hltL
       have hlt' : (i : Int) < (m : Int) := by omega
       obtain ⟨q, hq⟩ : ∃ q, q = LL[i] := ⟨_, rfl⟩
       rw [← hq] at hcell hlc
       have hq20 : q.length ≤ 20 := HB8.out q (by rw [hq]; exact List.getElem_mem _)
       have hn := PI wr (q.length : Int) 1 8
       obtain ⟨bq, hbq⟩ : ∃ b, b = decide (1 ≤ q.length ∧ q.length ≤ 8) := ⟨_, rfl⟩
       rw [show decide ((1 : Int) ≤ (q.length : Int) ∧ (q.length : Int) ≤ 8) = bq from by rw [hbq, decide_eq_decide]; omega] at hn
       have HQ := Aside0.mk hq
       have HBQ := Aside0.mk hbq
       clear hq hbq PI
       cases bq
       ·have hrF : r = false := by
         rw [HR.out]
         refine formed_f2 (?_)
         rw [← HTk.out]
         rw [List.all_eq_false]
         exact ⟨q, by rw [HQ.out]; exact List.mem_take_iff_getElem.2 ⟨i, by omega, rfl⟩, by rw [← HBQ.out]; decide⟩
        subst hrF
        go_wp2_with (go_at_call 20; refine hn.mono ?_; clear hn; rintro e W6 ⟨rfl, hd⟩; have HD6 := Aside0.mk hd; clear hd)
        go_ret
        exact ⟨rfl, HB4.out.trans ((HB5.out.trans ((HB6.out.trans (HD6.out.below.mono HB6.out.size)).mono HB5.out.size)).mono HB4.out.size)⟩
       ·go_wp2_with (go_at_call 20; refine hn.mono ?_; clear hn; rintro e W6 ⟨rfl, hd⟩; have HD6 := Aside0.mk hd; clear hd)
        go_roundg (m - (i + 1))
        case measure => omega
        case rel => exact ⟨i + 1, by go_num, by omega, by omega, ⟨HB6.out.trans (HD6.out.below.mono HB6.out.size)⟩, ⟨by rw [take_all _ _ i hltL, HA.out, ← HQ.out, ← HBQ.out]; rfl⟩⟩
      ·obtain rfl : i = m := by omega
       have hA2 := HA.out
       rw [HTk.out] at hA2
       have HA2 := Aside0.mk hA2
       obtain ⟨W6, rfl⟩ : ∃ W6, W6 = wr := ⟨_, rfl⟩
       have him : i < LL.length := by omega
       obtain ⟨ad, B, c, rfl, hcell, hlc, hCT⟩ := SL.out W6 HB6.out i him
       rw [HLt.out him] at hcell hlc hCT
       obtain ⟨T, hT⟩ : ∃ T, T = topOf l0 l1 := ⟨_, rfl⟩
       rw [← hT] at hcell hlc hCT
       have hT20 := Aside0.mk (by have := HT20.out; rw [← hT] at this; exact this)
       have hTn : T.length ≤ 1000 := by rw [hT]; simp [topOf]; omega
       have ST := Aside0.mk (fun (W : World) (hW : Below W6.heap.size W6 W) => str_at (Kd.C_below hCT hW))
       have HT := Aside0.mk hT
       have hil : (i : Int) < (i : Int) + 1 := by omega
       clear hA2 HA SL HC1 hCT hT
       go_upto_region 17 with fail
       go_loopg [61] T.length (fun gg v61 wr => ∃ j : Nat, v61 = .int .i64 j ∧ j ≤ T.length ∧ T.length - j ≤ gg ∧ Aside0 (Below W6.heap.size W6 wr) ∧ Aside0 ((T.take j).all (fun s => baseSize s == 0) = true))
       case atStart => exact ⟨0, rfl, by omega, by omega, ⟨Below.refl _ _⟩, ⟨rfl⟩⟩
       case round =>
        obtain ⟨j, rfl, hj, hgj, HB7, HAj⟩ := hrel
        have HB9 := Aside0.mk (show Below w.heap.size w wr from HB4.out.trans ((HB5.out.trans ((HB6.out.trans (HB7.out.mono HB6.out.size)).mono HB5.out.size)).mono HB4.out.size))
        by_cases hltj : j < T.length
        ·obtain ⟨ad2, rfl, hcell2⟩ := ST.out wr HB7.out j hltj
         have hltj' : (j : Int) < (T.length : Int) := by omega
         obtain ⟨q, hq⟩ : ∃ q, q = T[j] := ⟨_, rfl⟩
         rw [← hq] at hcell2
         obtain ⟨hgw, hkw⟩ := PG.out wr HB9.out q (by rw [hq]; exact hT20.out _ (List.getElem_mem _))
         have HQ := Aside0.mk hq
         clear hq hcell PI
         by_cases hz : baseSize q = 0
         ·rw [hz] at hkw
          have HZ := Aside0.mk hz
          clear hz
          go_wp2_with fail
          go_roundg (T.length - (j + 1))
          case measure => omega
          case rel => exact ⟨j + 1, by go_num, by omega, by omega, HB7, ⟨by rw [take_all _ _ j hltj, HAj.out, ← HQ.out, HZ.out]; rfl⟩⟩
         ·have hz1 : (baseSize q != 0) = true := by simp [hz]
          rw [hz1] at hkw
          have hrF : r = false := by
           rw [HR.out]
           refine formed_f3 (?_)
           rw [← HT.out]
           exact all_false _ _ j hltj (by rw [← HQ.out]; simp [hz])
          subst hrF
          clear hz1 hz
          go_wp2_with fail
          go_ret
          exact ⟨rfl, HB9.out⟩
        ·obtain rfl : j = T.length := by omega
         have hA3 := HAj.out
         rw [List.take_length, HT.out] at hA3
         have hv := PV.out wr HB9.out
         rw [← formed_f4 HG0.out HG1.out (by rw [← HLL.out, ← HAL.out]; exact HA1.out) HA2.out hA3, ← HR.out] at hv
         obtain ⟨z0, z1⟩ := PC.out wr ((HB13.out.trans ((HB5.out.trans ((HB6.out.trans (HB7.out.mono HB6.out.size)).mono HB5.out.size)).mono HB13.out.size)))
         clear hA3 hcell PI
         go_wp2_with (go_at_call 44; refine hv.mono ?_; clear hv; rintro e W8 ⟨rfl, hb8⟩; have HB8 := Aside0.mk hb8; clear hb8)
         go_ret
         exact ⟨rfl, HB9.out.trans (HB8.out.mono HB9.out.size)⟩
end
end Go.Proofs.YtjeipkfeihahdaaGreatDoor
end
