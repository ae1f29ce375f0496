/- A plan in memory, told by the plain one; what keeps it; its find. -/
import Derived.Test.YtjjcepnadjociaaDoorStubFind
import Derived.Test.YtjjcepnadjociaaDoorStubSizes
namespace Go.Proofs.YtjjcepnadjociaaDoor
set_option linter.unusedVariables false
set_option linter.unusedSimpArgs false
open Go.RowKit Go.Maps Go.Proofs.YtjjcepnadjociaaDoor.Lem Go.Proofs.YtjjcepnadjociaaDoorW.PrintWords Go.Proofs.YtjjcepnadjociaaDoorW.PrintLast Go.Proofs.YtjjcepnadjociaaDoorW.PrintMore
def kRoom : Kd (Int × Int) := Kd.pair (Kd.int .i64) (Kd.int .i64)
theorem kRoom_mk (w : World) (x : Int × Int) : kRoom.K w x [.int .i64 x.1, .int .i64 x.2] := ⟨[.int .i64 x.1], [.int .i64 x.2], rfl, rfl, rfl⟩
theorem kRoom_mkM (w : World) (base : Nat) (ok : Nat → Prop) (x : Int × Int) : kRoom.M w base ok x [.int .i64 x.1, .int .i64 x.2] := ⟨[.int .i64 x.1], [.int .i64 x.2], rfl, rfl, rfl⟩
theorem kRoom_open {w : World} {x : Int × Int} {cs : List Value} (h : kRoom.K w x cs) : cs = [.int .i64 x.1, .int .i64 x.2] := by
  obtain ⟨c0, c1, rfl, rfl, rfl⟩ := h
  rfl
/-- Rows of other types stand as they stood. -/
structure KeptT (w w' : World) : Prop where
  size : w.heap.size ≤ w'.heap.size
  same : ∀ (k : Nat) (cs : Array Value) (t : TypeId) (fr : Nat × Nat), w.heap[k]? = some (Obj.cells cs t fr) → t ≠ 76 → t ≠ 85 → w'.heap[k]? = some (Obj.cells cs t fr)
theorem KeptT.refl (w : World) : KeptT w w := ⟨Nat.le_refl _, fun _ _ _ _ h _ _ => h⟩
theorem KeptT.trans {a b c : World} (h : KeptT a b) (k : KeptT b c) : KeptT a c := ⟨Nat.le_trans h.size k.size, fun b cs t fr e h1 h2 => k.same b cs t fr (h.same b cs t fr e h1 h2) h1 h2⟩
theorem KeptT.of_below {w w' : World} (h : Below w.heap.size w w') : KeptT w w' := ⟨h.size, fun k cs t fr e _ _ => (h.block k (Array.getElem?_eq_some_iff.mp e).1).trans e⟩
theorem KeptT.of_set {w : World} {g : Nat} {cs0 : Array Value} {t0 : TypeId} {fr0 : Nat × Nat} (h : w.heap[g]? = some (.cells cs0 t0 fr0)) (ht : t0 = 76 ∨ t0 = 85) (j : Nat) (u : Value) : KeptT w (w.setCell ⟨g, j, none⟩ u) := by
  refine ⟨by simp, fun k cs t fr e h1 h2 => ?_⟩
  by_cases hk : k = g
  · subst hk
    rw [h] at e
    injection e with e
    injection e with e1 e2 e3
    subst e2
    rcases ht with ht | ht
    · exact absurd ht h1
    · exact absurd ht h2
  · exact (Below.heap_setCell w _ _ k hk).trans e
theorem KeptT.of_grown {w w' : World} {row : Option Nat} (hg : w.grownBy w' row) (hr : ∀ k, row = some k → ∃ cs, w.heap[k]? = some (Obj.cells cs 85 (0, 0))) : KeptT w w' := by
  refine ⟨hg.size, fun k cs t fr e h1 h2 => (hg.block k (Array.getElem?_eq_some_iff.mp e).1 (fun hk => ?_)).trans e⟩
  obtain ⟨cs1, e1⟩ := hr k hk.symm
  rw [e1] at e
  injection e with e
  injection e with _ e2 _
  exact h2 e2.symm
def roomRow (r : Int × Nat) : Int × Int := (r.1, 2 ^ r.2)
abbrev okP (pb mb : Nat) : Nat → Prop := fun k => k ≠ pb ∧ k ≠ mb
/-- A plan in memory. -/
structure IsP (w0 w : World) (pb mb n : Nat) (p : PS) : Prop where mk ::
  out : ∃ rv, Plan w0 w pb mb n p.words p.ptrs p.tag p.pointer p.choices rv p.h ∧ Kd.R kRoom 85 w w0.heap.size (okP pb mb) rv (p.rooms.map roomRow)
section
variable {w0 w w1 : World} {pb mb n n' : Nat} {words ptrs tag pointer choices : Int} {rooms : Value} {h : Holes} {p : PS}
theorem Plan.lt (hP : Plan w0 w pb mb n words ptrs tag pointer choices rooms h) : pb < w.heap.size ∧ mb < w.heap.size := by
  obtain ⟨D, ho, hm⟩ := hP.map
  exact ⟨(Array.getElem?_eq_some_iff.mp hP.row).1, ho.lt⟩
theorem Plan.below_ (hP : Plan w0 w pb mb n words ptrs tag pointer choices rooms h) (hb : Below w.heap.size w w1) : Plan w0 w1 pb mb n words ptrs tag pointer choices rooms h := by
  obtain ⟨l1, l2⟩ := hP.lt
  obtain ⟨D, ho, hm⟩ := hP.map
  exact ⟨(hb.block pb l1).trans hP.row, hP.old, ⟨D, ho.kept (row := none) ⟨hb.os, hb.tape, hb.output, hb.size, fun k hk _ => hb.block k hk⟩ (by simp), hm⟩, hP.below.trans (hb.mono hP.below.size)⟩
theorem Plan.grown2 (hP : Plan w0 w pb mb n words ptrs tag pointer choices rooms h) {row : Option Nat} (hg : w.grownBy w1 row) (h1 : some pb ≠ row) (h2 : some mb ≠ row) (hb : Below w0.heap.size w0 w1) : Plan w0 w1 pb mb n words ptrs tag pointer choices rooms h := by
  obtain ⟨l1, l2⟩ := hP.lt
  obtain ⟨D, ho, hm⟩ := hP.map
  exact ⟨(hg.block pb l1 h1).trans hP.row, hP.old, ⟨D, ho.kept hg h2, hm⟩, hb⟩
theorem IsP.below_ (H : IsP w0 w pb mb n p) (hb : Below w.heap.size w w1) : IsP w0 w1 pb mb n p := by
  obtain ⟨rv, hP, hR⟩ := H.out
  exact ⟨rv, hP.below_ hb, Kd.R_below hR hb⟩
theorem IsP.mono (H : IsP w0 w pb mb n p) (hn : n ≤ n') : IsP w0 w pb mb n' p := by
  obtain ⟨rv, hP, hR⟩ := H.out
  exact ⟨rv, hP.mono hn, hR⟩
theorem IsP.low (H : IsP w0 w pb mb n p) : Below w0.heap.size w0 w := by
  obtain ⟨rv, hP, hR⟩ := H.out
  exact hP.below
theorem Plan.set_ (hP : Plan w0 w pb mb n words ptrs tag pointer choices rooms h) (j : Nat) (x : Value) {words' ptrs' tag' pointer' choices' : Int} {rooms' : Value}
    (he : (#[.int .i64 words, .int .i64 ptrs, .map (some mb), .int .i64 tag, rooms, .int .i64 pointer, .int .i64 choices] : Array Value).setIfInBounds j x = #[.int .i64 words', .int .i64 ptrs', .map (some mb), .int .i64 tag', rooms', .int .i64 pointer', .int .i64 choices']) :
    Plan w0 (w.setCell ⟨pb, j, none⟩ x) pb mb n words' ptrs' tag' pointer' choices' rooms' h := by
  obtain ⟨h0, h1, h2⟩ := hP.old
  obtain ⟨D, ho, hm⟩ := hP.map
  exact ⟨by rw [← he]; exact blk_set hP.row j x, hP.old, ⟨D, ho.setCell (fun e => h2 e.symm) _, hm⟩, below_set hP.below h0⟩
theorem IsP.set_ (H : IsP w0 w pb mb n p) (j : Nat) (x : Value) {q : PS} (hh : q.h = p.h) (hrm : q.rooms = p.rooms)
    (he : ∀ rv, (#[.int .i64 p.words, .int .i64 p.ptrs, .map (some mb), .int .i64 p.tag, rv, .int .i64 p.pointer, .int .i64 p.choices] : Array Value).setIfInBounds j x = #[.int .i64 q.words, .int .i64 q.ptrs, .map (some mb), .int .i64 q.tag, rv, .int .i64 q.pointer, .int .i64 q.choices]) :
    IsP w0 (w.setCell ⟨pb, j, none⟩ x) pb mb n q ∧ KeptT w (w.setCell ⟨pb, j, none⟩ x) := by
  obtain ⟨rv, hP, hR⟩ := H.out
  refine ⟨⟨rv, ?_, ?_⟩, KeptT.of_set hP.row (.inl rfl) j x⟩
  · rw [hh]; exact hP.set_ j x (he rv)
  · rw [hrm]; exact Kd.R_far hR (fun k hk => hk.1) x
theorem KeptT.of_two (hP : Plan w0 w pb mb n words ptrs tag pointer choices rooms h) (hK : Kept2 w w1 pb mb) : KeptT w w1 := by
  refine ⟨by rw [hK.size]; exact Nat.le_refl _, fun k cs t fr e h1 h2 => (hK.same k (fun hk => ?_) (fun hk => ?_)).trans e⟩
  · subst hk
    rw [hP.row] at e
    injection e with e
    injection e with _ e2 _
    exact h1 e2.symm
  · subst hk
    obtain ⟨D, ⟨es, clock, hb, _⟩, _⟩ := hP.map
    rw [hb] at e
    cases e
end
set_option maxRecDepth 100000 in
theorem find64_calls (w0 w : World) (pb mb n : Nat) (words ptrs tag pointer choices : Int) (rooms : Value) (h : Holes) (hP : Plan w0 w pb mb n words ptrs tag pointer choices rooms h) (hw : 0 ≤ words ∧ words ≤ 1000) :
    Calls Tryd.prog 57 #[.pointer (some ⟨pb, 0, none⟩), .int .i64 64] w fun e w' => e = .returned (.int .i64 (64 * words)) ∧ Plan w0 w' pb mb (n + 10) (words + 1) ptrs tag pointer choices rooms h ∧ Kept2 w w' pb mb := by
  have hc0 := hP.c0
  have hf0 := hP.f0
  have hw1 : wrap64 (words + 1) = words + 1 := w64 (by omega) (by omega)
  have hw2 : wrap64 (64 * words) = 64 * words := w64 (by omega) (by omega)
  have hw3 : wrap64 words = words := w64 (by omega) (by omega)
  have HPP := Aside0.mk hP
  clear hP hw
  go_enter Tryd.func57, Tryd.ntmps57
  go_wp2
  go_ret
  have HP1 := HPP.out.setw (words + 1)
  exact ⟨congrArg (fun x => Ending.returned (Value.int .i64 x)) hw2, HP1.mono (by omega), (Kept2.refl w pb mb).set 0 _⟩
/-- With the rooms' own value told. -/
structure IsPv (w0 w : World) (pb mb n : Nat) (p : PS) (rv : Value) : Prop where
  plan : Plan w0 w pb mb n p.words p.ptrs p.tag p.pointer p.choices rv p.h
  rooms : Kd.R kRoom 85 w w0.heap.size (okP pb mb) rv (p.rooms.map roomRow)
theorem IsPv.all {w0 w : World} {pb mb n : Nat} {p : PS} {rv : Value} (h : IsPv w0 w pb mb n p rv) : IsP w0 w pb mb n p := ⟨rv, h.plan, h.rooms⟩
theorem IsP.open_ {w0 w : World} {pb mb n : Nat} {p : PS} (h : IsP w0 w pb mb n p) : ∃ rv, IsPv w0 w pb mb n p rv := by
  obtain ⟨rv, a, b⟩ := h.out
  exact ⟨rv, a, b⟩
theorem IsPv.below_ {w0 w w1 : World} {pb mb n : Nat} {p : PS} {rv : Value} (h : IsPv w0 w pb mb n p rv) (hb : Below w.heap.size w w1) : IsPv w0 w1 pb mb n p rv := ⟨h.plan.below_ hb, Kd.R_below h.rooms hb⟩
theorem findv_calls (w0 w : World) (pb mb n kw k : Nat) (p : PS) (rv : Value) (s : Nat) (hs : s ≤ 6) (z : Int) (hz : z = 2 ^ s) (hn : n ≤ 900) (hi : Inv kw k p) (hk : kw ≤ 40) (H : IsPv w0 w pb mb n p rv) :
    Calls Tryd.prog 57 #[.pointer (some ⟨pb, 0, none⟩), .int .i64 z] w fun e w' => e = .returned (.int .i64 (findP p s).1) ∧ IsPv w0 w' pb mb (n + 10) (findP p s).2 rv ∧ KeptT w w' := by
  subst hz
  have hP := H.plan
  have hR := H.rooms
  have hw := hi.words
  by_cases h5 : s ≤ 5
  · refine (find_calls w0 w pb mb n p.words p.ptrs p.tag p.pointer p.choices rv p.h s h5 hP (by omega) (by omega) (fun s hs v hv => ?_)).mono ?_
    · obtain ⟨a, b, _⟩ := hi.hi s hs v hv
      have := p2pos s
      omega
    · rintro e w' ⟨rfl, hP2, hK⟩
      exact ⟨rfl, ⟨hP2, Kd.R_step hR (fun k hk _ => hK.same k hk.1 hk.2)⟩, KeptT.of_two hP hK⟩
  · have e : s = 6 := by omega
    subst e
    have e1 : findV p.words p.h 6 = (64 * p.words, p.words + 1, p.h) := rfl
    refine (find64_calls w0 w pb mb n p.words p.ptrs p.tag p.pointer p.choices rv p.h hP (by omega)).mono ?_
    rintro e w' ⟨rfl, hP2, hK⟩
    exact ⟨rfl, ⟨hP2, Kd.R_step hR (fun k hk _ => hK.same k hk.1 hk.2)⟩, KeptT.of_two hP hK⟩
theorem findp_calls (w0 w : World) (pb mb n kw k : Nat) (p : PS) (s : Nat) (hs : s ≤ 6) (z : Int) (hz : z = 2 ^ s) (hn : n ≤ 900) (hi : Inv kw k p) (hk : kw ≤ 40) (H : IsP w0 w pb mb n p) :
    Calls Tryd.prog 57 #[.pointer (some ⟨pb, 0, none⟩), .int .i64 z] w fun e w' => e = .returned (.int .i64 (findP p s).1) ∧ IsP w0 w' pb mb (n + 10) (findP p s).2 ∧ KeptT w w' := by
  obtain ⟨rv, h⟩ := H.open_
  refine (findv_calls w0 w pb mb n kw k p rv s hs z hz hn hi hk h).mono ?_
  rintro e w' ⟨rfl, a, b⟩
  exact ⟨rfl, a.all, b⟩
end Go.Proofs.YtjjcepnadjociaaDoor
