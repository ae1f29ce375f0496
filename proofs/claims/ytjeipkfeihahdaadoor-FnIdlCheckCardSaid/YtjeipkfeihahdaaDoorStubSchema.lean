/- The look-ups of a schema, a type's size, and whether a number may be of it, walked. -/
import Derived.Test.YtjeipkfeihahdaaDoorLemIdl
import Derived.Test.YtjeipkfeihahdaaDoorLibStr
import Derived.Test.YtjeipkfeihahdaaDoorLibDecl
namespace Go.Proofs.YtjeipkfeihahdaaDoor
set_option linter.unusedVariables false
set_option linter.unusedSimpArgs false
open Go.RowKit Go.Proofs.YtjeipkfeihahdaaDoor.P Go.Proofs.YtjeipkfeihahdaaDoor.Lem Go.Proofs.YtjeipkfeihahdaaDoorW.PrintWords Go.Proofs.YtjeipkfeihahdaaDoorW.PrintLast Go.Proofs.YtjeipkfeihahdaaDoorW.PrintMore
theorem heapD : Kd.Heap k36 := Kd.heap_iso _ (Kd.heap_pair Kd.heap_string (Kd.heap_pair (Kd.heap_int _) (Kd.heap_pair (Kd.heap_iso _ (Kd.heap_pair Kd.heap_string Kd.heap_bool)) (Kd.heap_pair Kd.heap_bool (Kd.heap_int _)))))
theorem heapS : Kd.Heap k32 := Kd.heap_iso _ (Kd.heap_pair Kd.heap_string (Kd.heap_slice _ heapD))
theorem heapE : Kd.Heap k65 := Kd.heap_iso _ (Kd.heap_pair Kd.heap_string (Kd.heap_slice _ Kd.heap_string))
/-- A schema that is read. -/
structure SchAt (W : World) (A0 : Option Addr) (c0 : Nat) (l0 : List SS) (A1 : Option Addr) (c1 : Nat) (l1 : List SE) : Prop where
  h0 : Kd.C k32 W A0 l0.length l0
  b0 : l0.length ≤ c0
  h1 : Kd.C k65 W A1 l1.length l1
  b1 : l1.length ≤ c1
theorem SchAt.below {W W1 : World} {A0 : Option Addr} {c0 : Nat} {l0 : List SS} {A1 : Option Addr} {c1 : Nat} {l1 : List SE} (h : SchAt W A0 c0 l0 A1 c1 l1) (hb : Below W.heap.size W W1) : SchAt W1 A0 c0 l0 A1 c1 l1 := ⟨Kd.C_below h.h0 hb, h.b0, Kd.C_below h.h1 hb, h.b1⟩
abbrev schV (A0 : Option Addr) (c0 : Nat) (l0 : List SS) (A1 : Option Addr) (c1 : Nat) (l1 : List SE) : Value := .agg #[.slice A0 l0.length c0, .slice A1 l1.length c1]
section
variable {A0 A1 : Option Addr} {c0 c1 : Nat} {l0 : List SS} {l1 : List SE}
theorem names_calls (w : World) (hS : Small l0 l1) (h : SchAt w A0 c0 l0 A1 c1 l1) :
    Calls Tryd.prog 10 #[schV A0 c0 l0 A1 c1 l1] w fun e w' => ∃ B0 d0 B1 d1, e = .returned (.tuple #[.slice B0 (allOf (lotsOf l0 l1 ++ [topOf l0 l1])).length d0, .slice B1 (lotsOf l0 l1 ++ [topOf l0 l1]).length d1]) ∧
      Kd.C Kd.string w' B0 (allOf (lotsOf l0 l1 ++ [topOf l0 l1])).length (allOf (lotsOf l0 l1 ++ [topOf l0 l1])) ∧ (lotsOf l0 l1 ++ [topOf l0 l1]).length ≤ d1 ∧
      Kd.C (Kd.slice 9 Kd.string) w' B1 (lotsOf l0 l1 ++ [topOf l0 l1]).length (lotsOf l0 l1 ++ [topOf l0 l1]) ∧ Below w.heap.size w w' := by
  obtain ⟨k, hk⟩ := names_f l0 l1 hS
  refine (impl_Schema_names.calls k A0 c0 l0 _ A1 c1 l1 _ _ w h.h0 h.b0 (Kd.V_mk h.b1 (Kd.C_F heapE h.h1)) hk).mono ?_
  rintro e w' ⟨v0, v1, rfl, hR, hN, hb⟩
  obtain ⟨B0, d0, rfl, hl0, hC0⟩ := Kd.R_reads hR
  obtain ⟨B1, d1, rfl, hl1, hF⟩ := Kd.N_V (base' := 0) hN
  exact ⟨B0, d0, B1, d1, rfl, hC0, hl1, Kd.F_now hF, hb⟩
theorem record_calls (a : ByteArray) (w : World) (hS : Small l0 l1) (h : SchAt w A0 c0 l0 A1 c1 l1) :
    Calls Tryd.prog 37 #[schV A0 c0 l0 A1 c1 l1, .string a] w fun e w' => ∃ B d, e = .returned (.tuple #[.agg #[.string ((findS l0 a).getD zS).f0, .slice B ((findS l0 a).getD zS).f1.length d], .bool (findS l0 a).isSome]) ∧
      ((findS l0 a).getD zS).f1.length ≤ d ∧ Kd.C k36 w' B ((findS l0 a).getD zS).f1.length ((findS l0 a).getD zS).f1 ∧ Below w.heap.size w w' := by
  have hk := record_f a l0 l1 (by have := hS.n0; omega) 1002 (Nat.le_refl _)
  have hk' : impl_Schema_record.f 1002 l0 l1 a = some (((findS l0 a).getD zS).f0, ((findS l0 a).getD zS).f1, (findS l0 a).isSome) := by
    rw [hk]
    cases findS l0 a <;> rfl
  refine (impl_Schema_record.calls 1002 _ A0 c0 l0 A1 c1 l1 a _ _ _ w (Kd.V_mk h.b0 (Kd.C_F heapS h.h0)) h.h1 h.b1 hk').mono ?_
  rintro e w' ⟨v1, rfl, ⟨B, d, rfl, hl, hF⟩, hb⟩
  exact ⟨B, d, rfl, hl, Kd.F_now hF, hb⟩
theorem enum_calls (a : ByteArray) (w : World) (hS : Small l0 l1) (h : SchAt w A0 c0 l0 A1 c1 l1) :
    Calls Tryd.prog 36 #[schV A0 c0 l0 A1 c1 l1, .string a] w fun e w' => ∃ B d, e = .returned (.tuple #[.agg #[.string ((findE l1 a).getD zE).f0, .slice B ((findE l1 a).getD zE).f1.length d], .bool (findE l1 a).isSome]) ∧ Below w.heap.size w w' := by
  have hk := enum_f a l0 l1 (by have := hS.n1; omega) 1002 (Nat.le_refl _)
  have hk' : impl_Schema_enum.f 1002 l0 l1 a = some (((findE l1 a).getD zE).f0, ((findE l1 a).getD zE).f1, (findE l1 a).isSome) := by
    rw [hk]
    cases findE l1 a <;> rfl
  refine (impl_Schema_enum.calls 1002 A0 c0 l0 _ A1 c1 l1 a _ _ _ w h.h0 h.b0 (Kd.V_mk h.b1 (Kd.C_F heapE h.h1)) hk').mono ?_
  rintro e w' ⟨v1, rfl, ⟨B, d, rfl, hl, hF⟩, hb⟩
  exact ⟨B, d, rfl, hb⟩
def sizeB (z : Int) (e s li : Bool) : Int := if z = 0 ∧ e = false ∧ s = false then -1 else if li = true ∨ s = true then 6 else if e = true then 3 else z
theorem sizeF_eq (l0 : List SS) (l1 : List SE) (b : ByteArray) (li : Bool) : sizeF l0 l1 b li = sizeB (baseSize b) (findE l1 b).isSome (findS l0 b).isSome li := by
  unfold sizeF sizeB
  cases findE l1 b <;> cases findS l0 b <;> simp
set_option maxHeartbeats 4000000 in
set_option maxRecDepth 100000 in
theorem size_calls (b : ByteArray) (li : Bool) (w : World) (hSB : SBw w) (hS : Small l0 l1) (h : SchAt w A0 c0 l0 A1 c1 l1) (hb : b.size ≤ 1000) :
    Calls Tryd.prog 16 #[schV A0 c0 l0 A1 c1 l1, .agg #[.string b, .bool li]] w fun e w' => e = .returned (.int .i64 (sizeF l0 l1 b li)) ∧ Below w.heap.size w w' := by
  rw [sizeF_eq]
  have PR : ∀ W, Below w.heap.size w W → Calls Tryd.prog 37 #[schV A0 c0 l0 A1 c1 l1, .string b] W fun e w' => ∃ nm B m d, e = .returned (.tuple #[.agg #[.string nm, .slice B m d], .bool (findS l0 b).isSome]) ∧ Below W.heap.size W w' := fun W hW => (record_calls b W hS (h.below hW)).mono fun e w' ⟨B, d, he, _, _, hb⟩ => ⟨_, B, _, d, he, hb⟩
  have PE : ∀ W, Below w.heap.size w W → Calls Tryd.prog 36 #[schV A0 c0 l0 A1 c1 l1, .string b] W fun e w' => ∃ nm B m d, e = .returned (.tuple #[.agg #[.string nm, .slice B m d], .bool (findE l1 b).isSome]) ∧ Below W.heap.size W w' := fun W hW => (enum_calls b W hS (h.below hW)).mono fun e w' ⟨B, d, he, hb⟩ => ⟨_, B, _, d, he, hb⟩
  generalize (findS l0 b).isSome = sB at PR ⊢
  generalize (findE l1 b).isSome = eB at PE ⊢
  have PR := Aside0.mk PR
  have PE := Aside0.mk PE
  obtain ⟨bm, hg, hgs, hlk⟩ := hSB.base
  have hm : b.size ≤ maxLen := by unfold maxLen; omega
  obtain ⟨W1, hW1⟩ : ∃ W1, W1 = (w.alloc (.cells #[.slice A0 l0.length c0, .slice A1 l1.length c1] 26)).alloc (.cells #[.string b, .bool li] 34) := ⟨_, rfl⟩
  have hb1 : Below w.heap.size w W1 := by rw [hW1]; exact below_alloc (below_alloc (Below.refl _ _) _) _
  have hg1 := pw_cell_below hb1 hg
  have hk1 := hlk W1 hb1 b hm
  have x0 : W1.cell? ⟨w.heap.size, 0, none⟩ = some (.slice A0 l0.length c0) := by rw [hW1]; simp
  have x1 : W1.cell? ⟨w.heap.size, 1, none⟩ = some (.slice A1 l1.length c1) := by rw [hW1]; simp
  have x2 : W1.cell? ⟨w.heap.size + 1, 0, none⟩ = some (.string b) := by rw [hW1]; simp
  have x3 : W1.cell? ⟨w.heap.size + 1, 1, none⟩ = some (.bool li) := by rw [hW1]; simp
  have PC := Aside0.mk (fun (W : World) (hW : Below W1.heap.size W1 W) => And.intro (pw_cell_below hW x0) (And.intro (pw_cell_below hW x1) (And.intro (pw_cell_below hW x2) (pw_cell_below hW x3))))
  have HW1 := Aside0.mk hW1
  have HB1 := Aside0.mk hb1
  generalize baseSize b = z at *
  clear hSB h hg hlk hb1 hW1 hS hb hm
  go_enter Tryd.func16, Tryd.ntmps16
  go_upto_region 1 with fail
  rw [← HW1.out]
  go_upto_region 3 with (go_at_call 36; refine (PE.out W1 HB1.out).mono ?_; rintro e W2 ⟨nm, B, m, d, rfl, hb2⟩; have HB2 := Aside0.mk hb2; clear hb2)
  obtain ⟨W3, hW3⟩ : ∃ W3, W3 = W2.alloc (.cells #[.string nm, .slice B m d] 65) := ⟨_, rfl⟩
  rw [← hW3]
  have HB3 := Aside0.mk (show Below W1.heap.size W1 W3 from by rw [hW3]; exact below_alloc HB2.out _)
  obtain ⟨y0, y1, y2, y3⟩ := PC.out W3 HB3.out
  clear hW3 x0 x1 x2 x3
  have HB4 := Aside0.mk (show Below w.heap.size w W3 from HB1.out.trans (HB3.out.mono HB1.out.size))
  go_upto_region 4 with (go_at_call 37; refine (PR.out W3 HB4.out).mono ?_; rintro e W4 ⟨nm4, B4, m4, d4, rfl, hb4⟩; have HB6' := Aside0.mk hb4; have HB5 := Aside0.mk (HB4.out.trans (hb4.mono HB4.out.size)); clear hb4)
  obtain ⟨W5, hW5⟩ : ∃ W5, W5 = W4.alloc (.cells #[.string nm4, .slice B4 m4 d4] 32) := ⟨_, rfl⟩
  rw [← hW5]
  have HB6 := Aside0.mk (show Below w.heap.size w W5 from by rw [hW5]; exact below_alloc HB5.out _)
  obtain ⟨y0, y1, y2, y3⟩ := PC.out W5 (by rw [hW5]; exact below_alloc (HB3.out.trans (HB6'.out.mono HB3.out.size)) _)
  clear hW5
  rcases Decidable.em (z = 0) with hz | hz
  · subst hz
    cases eB <;> cases sB <;> cases li <;> (go_wp2_with fail; go_ret; exact ⟨rfl, HB6.out⟩)
  · have hz1 : (z != 0) = true := by simp [hz]
    have hr : ∀ e s l, sizeB z e s l = if l = true ∨ s = true then 6 else if e = true then 3 else z := fun e s l => by unfold sizeB; rw [if_neg (fun h => hz h.1)]
    have HR := Aside0.mk hr
    rw [hz1]
    clear hr hz hz1
    cases eB <;> cases sB <;> cases li <;> (go_wp2_with fail; go_ret; exact ⟨by rw [HR.out]; simp, HB6.out⟩)
def mayB (eB li fB sh inB : Bool) : Bool := if (eB && !li) = true then inB else fB && sh
theorem mayF_eq (l0 : List SS) (l1 : List SE) (b : ByteArray) (li : Bool) (n : Int) : mayF l0 l1 b li n = mayB (findE l1 b).isSome li (decide (Fits n (sizeF l0 l1 b li))) (decide (-999999999999999999 ≤ n ∧ n ≤ 999999999999999999)) (decide (0 ≤ n ∧ n ≤ (((findE l1 b).getD zE).f1.length : Int) - 1)) := by
  unfold mayF mayB
  cases findE l1 b <;> cases li <;> rfl
set_option maxHeartbeats 4000000 in
set_option maxRecDepth 100000 in
theorem may_calls (b : ByteArray) (li : Bool) (n : Int) (w : World) (hSB : SBw w) (hS : Small l0 l1) (h : SchAt w A0 c0 l0 A1 c1 l1) (hb : b.size ≤ 1000) (hz : 0 ≤ sizeF l0 l1 b li) :
    Calls Tryd.prog 19 #[schV A0 c0 l0 A1 c1 l1, .agg #[.string b, .bool li], .int .i64 n] w fun e w' => e = .returned (.bool (mayF l0 l1 b li n)) ∧ Below w.heap.size w w' := by
  rw [mayF_eq]
  have hz6 : sizeF l0 l1 b li ≤ 6 := by
    rw [sizeF_eq]
    unfold sizeB baseSize
    (repeat' split) <;> omega
  have PS : ∀ W, Below w.heap.size w W → Calls Tryd.prog 16 #[schV A0 c0 l0 A1 c1 l1, .agg #[.string b, .bool li]] W fun e w' => e = .returned (.int .i64 (sizeF l0 l1 b li)) ∧ Below W.heap.size W w' := fun W hW => size_calls b li W (hSB.mv hW) hS (h.below hW) hb
  have PE : ∀ W, Below w.heap.size w W → Calls Tryd.prog 36 #[schV A0 c0 l0 A1 c1 l1, .string b] W fun e w' => ∃ nm B d, e = .returned (.tuple #[.agg #[.string nm, .slice B (((findE l1 b).getD zE).f1.length) d], .bool (findE l1 b).isSome]) ∧ Below W.heap.size W w' := fun W hW => (enum_calls b W hS (h.below hW)).mono fun e w' ⟨B, d, he, hb⟩ => ⟨_, B, d, he, hb⟩
  have hm : ((findE l1 b).getD zE).f1.length ≤ 1000 := by
    cases hf : findE l1 b with
    | none => exact Nat.zero_le _
    | some e =>
      have hmem := List.mem_of_find?_eq_some hf
      have := (hS.s1 e hmem).2.1
      show e.f1.length ≤ 1000
      omega
  generalize ((findE l1 b).getD zE).f1.length = m at PE hm ⊢
  generalize (findE l1 b).isSome = eB at PE ⊢
  generalize sizeF l0 l1 b li = sz at PS hz hz6 ⊢
  have PF : ∀ W, Below w.heap.size w W → Calls Tryd.prog 41 #[.int .i64 n, .int .i64 sz] W fun e w' => e = .returned (.bool (decide (Fits n sz))) ∧ Drawn0 W w' := fun W hW => impl_fits.calls n sz _ W (hSB.mv hW) (by unfold impl_fits.f; rw [if_pos ⟨hz, hz6⟩])
  generalize decide (Fits n sz) = fB at PF ⊢
  have PH : ∀ W, Calls Tryd.prog 42 #[.int .i64 n] W fun e w' => e = .returned (.bool (decide (-999999999999999999 ≤ n ∧ n ≤ 999999999999999999))) ∧ Drawn0 W w' := fun W => impl_short.calls n _ W (by unfold impl_short.f; rw [in_f, Option.bind_some])
  generalize decide (-999999999999999999 ≤ n ∧ n ≤ 999999999999999999) = sh at PH ⊢
  have PI : ∀ W, Calls Tryd.prog 29 #[.int .i64 n, .int .i64 0, .int .i64 ((m : Int) - 1)] W fun e w' => e = .returned (.bool (decide (0 ≤ n ∧ n ≤ (m : Int) - 1))) ∧ Drawn0 W w' := fun W => impl_in.calls n 0 _ _ W (in_f _ _ _)
  generalize decide (0 ≤ n ∧ n ≤ (m : Int) - 1) = inB at PI ⊢
  have PS := Aside0.mk PS
  have PE := Aside0.mk PE
  have PF := Aside0.mk PF
  have hw : IntKind.i64.wrap ((m : Int) - 1) = (m : Int) - 1 := by rw [IntKind.wrap_i64]; omega
  obtain ⟨W1, hW1⟩ : ∃ W1, W1 = (w.alloc (.cells #[.slice A0 l0.length c0, .slice A1 l1.length c1] 26)).alloc (.cells #[.string b, .bool li] 34) := ⟨_, rfl⟩
  have hb1 : Below w.heap.size w W1 := by rw [hW1]; exact below_alloc (below_alloc (Below.refl _ _) _) _
  have x0 : W1.cell? ⟨w.heap.size, 0, none⟩ = some (.slice A0 l0.length c0) := by rw [hW1]; simp
  have x1 : W1.cell? ⟨w.heap.size, 1, none⟩ = some (.slice A1 l1.length c1) := by rw [hW1]; simp
  have x2 : W1.cell? ⟨w.heap.size + 1, 0, none⟩ = some (.string b) := by rw [hW1]; simp
  have x3 : W1.cell? ⟨w.heap.size + 1, 1, none⟩ = some (.bool li) := by rw [hW1]; simp
  have PC := Aside0.mk (fun (W : World) (hW : Below W1.heap.size W1 W) => And.intro (pw_cell_below hW x0) (And.intro (pw_cell_below hW x1) (And.intro (pw_cell_below hW x2) (pw_cell_below hW x3))))
  have HW1 := Aside0.mk hW1
  have HB1 := Aside0.mk hb1
  clear hSB h hb1 hW1 hS hb hz hz6
  go_enter Tryd.func19, Tryd.ntmps19
  go_upto_region 1 with fail
  rw [← HW1.out]
  go_upto_region 2 with (go_at_call 36; refine (PE.out W1 HB1.out).mono ?_; rintro e W2 ⟨nm, B, d, rfl, hb2⟩; have HB2 := Aside0.mk hb2; clear hb2)
  obtain ⟨W3, hW3⟩ : ∃ W3, W3 = W2.alloc (.cells #[.string nm, .slice B m d] 65) := ⟨_, rfl⟩
  rw [← hW3]
  have HB3 := Aside0.mk (show Below W1.heap.size W1 W3 from by rw [hW3]; exact below_alloc HB2.out _)
  have z0 : W3.cell? ⟨W2.heap.size, 0, none⟩ = some (.string nm) := by rw [hW3]; simp
  have z1 : W3.cell? ⟨W2.heap.size, 1, none⟩ = some (.slice B m d) := by rw [hW3]; simp
  obtain ⟨y0, y1, y2, y3⟩ := PC.out W3 HB3.out
  clear hW3 x0 x1 x2 x3
  have HB4 := Aside0.mk (show Below w.heap.size w W3 from HB1.out.trans (HB3.out.mono HB1.out.size))
  have hPS := PS.out W3 HB4.out
  have PF4 := Aside0.mk (fun (W : World) (hW : Below W3.heap.size W3 W) => PF.out W (HB4.out.trans (hW.mono HB4.out.size)))
  clear PF PS PE PC
  rcases Bool.eq_false_or_eq_true (eB && !li) with hc | hc
  · obtain ⟨rfl, rfl⟩ : eB = true ∧ li = false := by revert hc; cases eB <;> cases li <;> simp
    clear hPS PF4 hc
    go_wp2_with (go_at_call 29; refine (PI _).mono ?_; rintro e W4 ⟨rfl, hd⟩; have HD := Aside0.mk hd; clear hd)
    go_ret
    exact ⟨rfl, HB4.out.trans (HD.out.below.mono HB4.out.size)⟩
  · have hmay : mayB eB li fB sh inB = (fB && sh) := by unfold mayB; rw [hc]; rfl
    have HM := Aside0.mk hmay
    clear hmay
    rcases (by revert hc; cases eB <;> cases li <;> simp : (eB = false ∧ li = false) ∨ (eB = false ∧ li = true) ∨ (eB = true ∧ li = true)) with ⟨rfl, rfl⟩ | ⟨rfl, rfl⟩ | ⟨rfl, rfl⟩
    all_goals
      clear hc
      cases fB
      · go_wp2_with (first
          | (go_at_call 16; refine hPS.mono ?_; clear hPS; rintro e W4 ⟨rfl, hb4⟩; have HB5 := Aside0.mk hb4; clear hb4)
          | (go_at_call 41; refine (PF4.out _ HB5.out).mono ?_; rintro e W5 ⟨rfl, hd⟩; have HD := Aside0.mk hd; clear hd))
        go_ret
        exact ⟨by rw [HM.out]; rfl, HB4.out.trans ((HB5.out.trans (HD.out.below.mono HB5.out.size)).mono HB4.out.size)⟩
      · go_wp2_with (first
          | (go_at_call 16; refine hPS.mono ?_; clear hPS; rintro e W4 ⟨rfl, hb4⟩; have HB5 := Aside0.mk hb4; clear hb4)
          | (go_at_call 41; refine (PF4.out _ HB5.out).mono ?_; rintro e W5 ⟨rfl, hd⟩; have HD := Aside0.mk hd; clear hd)
          | (go_at_call 42; refine (PH _).mono ?_; clear PH; rintro e W6 ⟨rfl, hd⟩; have HD6 := Aside0.mk hd; clear hd))
        go_ret
        exact ⟨by rw [HM.out]; rfl, HB4.out.trans ((HB5.out.trans ((HD.out.below.trans (HD6.out.below.mono HD.out.below.size)).mono HB5.out.size)).mono HB4.out.size)⟩
end
end Go.Proofs.YtjeipkfeihahdaaDoor
