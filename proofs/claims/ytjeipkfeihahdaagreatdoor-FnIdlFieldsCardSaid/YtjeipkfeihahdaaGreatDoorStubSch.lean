/- Plain facts, merged out of several texts: StubSchDraw, StubSchDraw2, StubAny. -/
import Derived.Test.YtjeipkfeihahdaaGreatDoorStubDecls
import Derived.Test.YtjeipkfeihahdaaGreatDoorLibStep
section
namespace Go.Proofs.YtjeipkfeihahdaaGreatDoor
set_option linter.unusedVariables false
set_option linter.unusedSimpArgs false
open Go.RowKit Go.Proofs.YtjeipkfeihahdaaGreatDoor.P Go.Proofs.YtjeipkfeihahdaaGreatDoor.Lem Go.Proofs.YtjeipkfeihahdaaGreatDoorW.PrintWords Go.Proofs.YtjeipkfeihahdaaGreatDoorW.PrintLast Go.Proofs.YtjeipkfeihahdaaGreatDoorW.PrintMore
/-- Where the draw of a schema stands: the reader; the schema's two cells at S, the result's at R; the rows of its own. -/
structure GS (w0 w W : World) (g m S R : Nat) (a0 a1 vs ve vb : Value) (us0 us1 : List Unit) (lb : List ByteArray) : Prop where
 rd : Rdr w0 W g m
 bw : Below w0.heap.size w0 W
 kp : KeepBut w W g none
 w00 : w0.heap.size ≤ w.heap.size
 bs : W.heap[S]? = some (.cells #[a0, a1] 26 (0, 0))
 br : W.heap[R]? = some (.cells #[.slice none 0 0, .slice none 0 0] 26 (0, 0))
 wS : w.heap.size ≤ S
 wR : w.heap.size ≤ R
 ne : S ≠ R
 rs : kSx.R 42 W w.heap.size (fun _ => True) vs us0
 re : kEx.R 70 W w.heap.size (fun k => some k ≠ vb.ownBlock) ve us1
 rb : Kd.string.R 9 W w.heap.size (fun _ => True) vb lb
section
variable {w0 w W W' : World} {g m m' S R : Nat} {a0 a1 vs ve vb : Value} {us0 us1 : List Unit} {lb : List ByteArray}
theorem GS.below (h : GS w0 w W g m S R a0 a1 vs ve vb us0 us1 lb) (hb : Below W.heap.size W W') : GS w0 w W' g m S R a0 a1 vs ve vb us0 us1 lb :=
 ⟨h.rd.below hb, h.bw.trans (hb.mono h.bw.size), h.kp.trans (KeepBut.of_below hb g none) (.inl rfl), h.w00, (hb.block S (blk_lt h.bs)).trans h.bs, (hb.block R (blk_lt h.br)).trans h.br, h.wS, h.wR, h.ne, Kd.R_below h.rs hb, Kd.R_below h.re hb, Kd.R_below h.rb hb⟩
theorem GS.call (h : GS w0 w W g m S R a0 a1 vs ve vb us0 us1 lb) (hI : Rdr w0 W' g m') (hB : Below w0.heap.size w0 W') (hk : KeepBut W W' g none) : GS w0 w W' g m' S R a0 a1 vs ve vb us0 us1 lb := by
 obtain ⟨cs, hg⟩ := h.rd.blk
 have hS : S ≠ g := by
  rintro rfl
  have := h.bs
  rw [hg] at this
  injection this with this
  injection this with _ this
  exact absurd this (by decide)
 have hR : R ≠ g := by
  rintro rfl
  have := h.br
  rw [hg] at this
  injection this with this
  injection this with _ this
  exact absurd this (by decide)
 exact ⟨hI, hB, h.kp.trans hk (.inl rfl), h.w00, hk.blk h.bs hS (by simp), hk.blk h.br hR (by simp), h.wS, h.wR, h.ne, h.rd.row h.rs (by decide) hk, h.rd.row h.re (by decide) hk, h.rd.row h.rb (by decide) hk⟩
/-- The texts' row has grown. -/
theorem GS.growB (h : GS w0 w W g m S R a0 a1 vs ve vb us0 us1 lb) {vb' : Value} {lb' : List ByteArray} (hR : Kd.string.R 9 W' w.heap.size (fun _ => True) vb' lb') (hb : Below w.heap.size W W') (hg : W.grownBy W' vb.ownBlock) (hat : vb'.ownBlock = vb.ownBlock ∨ ∃ b, vb'.ownBlock = some b ∧ W.heap.size ≤ b) : GS w0 w W' g m S R a0 a1 vs ve vb' us0 us1 lb' :=
 ⟨h.rd.grown hg (h.rd.ne h.rb (by decide)), below_weaken h.bw h.w00 hb, h.kp.trans (KeepBut.of_grown hg g) (Kd.R_base2 h.rb), h.w00, blk_grown h.bs hg (Kd.R_ne h.rb h.bs (by decide)), blk_grown h.br hg (Kd.R_ne h.rb h.br (by decide)), h.wS, h.wR, h.ne, Kd.R_over' h.rs (Kd.R_typed h.rb) (by decide) hg,
  Kd.R_mono (Kd.R_after (ok := fun _ => True) (Kd.R_mono h.re (fun _ hk => ⟨trivial, hk⟩)) hg hat) (fun _ hk => hk.2), hR⟩
/-- The enums' row has grown. -/
theorem GS.growE (h : GS w0 w W g m S R a0 a1 vs ve vb us0 us1 lb) {ve' : Value} {us1' : List Unit} (hR : kEx.R 70 W' w.heap.size (fun k => some k ≠ vb.ownBlock) ve' us1') (hb : Below w.heap.size W W') (hg : W.grownBy W' ve.ownBlock) : GS w0 w W' g m S R a0 a1 vs ve' vb us0 us1' lb :=
 ⟨h.rd.grown hg (h.rd.ne h.re (by decide)), below_weaken h.bw h.w00 hb, h.kp.trans (KeepBut.of_grown hg g) (Kd.R_base2 h.re), h.w00, blk_grown h.bs hg (Kd.R_ne h.re h.bs (by decide)), blk_grown h.br hg (Kd.R_ne h.re h.br (by decide)), h.wS, h.wR, h.ne, Kd.R_over' h.rs (Kd.R_typed h.re) (by decide) hg, hR, Kd.R_over' h.rb (Kd.R_typed h.re) (by decide) hg⟩
/-- The structs' row has grown. -/
theorem GS.growS (h : GS w0 w W g m S R a0 a1 vs ve vb us0 us1 lb) {vs' : Value} {us0' : List Unit} (hR : kSx.R 42 W' w.heap.size (fun _ => True) vs' us0') (hb : Below w.heap.size W W') (hg : W.grownBy W' vs.ownBlock) : GS w0 w W' g m S R a0 a1 vs' ve vb us0' us1 lb :=
 ⟨h.rd.grown hg (h.rd.ne h.rs (by decide)), below_weaken h.bw h.w00 hb, h.kp.trans (KeepBut.of_grown hg g) (Kd.R_base2 h.rs), h.w00, blk_grown h.bs hg (Kd.R_ne h.rs h.bs (by decide)), blk_grown h.br hg (Kd.R_ne h.rs h.br (by decide)), h.wS, h.wR, h.ne, hR, Kd.R_over' h.re (Kd.R_typed h.rs) (by decide) hg, Kd.R_over' h.rb (Kd.R_typed h.rs) (by decide) hg⟩
theorem GS.ngS (h : GS w0 w W g m S R a0 a1 vs ve vb us0 us1 lb) : g ≠ S := by
 rintro rfl
 obtain ⟨cs, hg⟩ := h.rd.blk
 have := h.bs
 rw [hg] at this
 injection this with this
 injection this with _ this
 exact absurd this (by decide)
/-- A cell of the schema is written. -/
theorem GS.put0 (h : GS w0 w W g m S R a0 a1 vs ve vb us0 us1 lb) (x : Value) : GS w0 w (W.setCell ⟨S, 0, none⟩ x) g m S R x a1 vs ve vb us0 us1 lb :=
 ⟨h.rd.far h.ngS _, below_set h.bw (Nat.le_trans h.w00 h.wS), keep_far h.kp h.wS _, h.w00, blk_put h.bs 0 _ rfl, blk_far h.br (Ne.symm h.ne) _, h.wS, h.wR, h.ne, Kd.R_set h.rs h.bs (by decide) 0 x, Kd.R_set h.re h.bs (by decide) 0 x, Kd.R_set h.rb h.bs (by decide) 0 x⟩
theorem GS.put1 (h : GS w0 w W g m S R a0 a1 vs ve vb us0 us1 lb) (x : Value) : GS w0 w (W.setCell ⟨S, 1, none⟩ x) g m S R a0 x vs ve vb us0 us1 lb :=
 ⟨h.rd.far h.ngS _, below_set h.bw (Nat.le_trans h.w00 h.wS), keep_far h.kp h.wS _, h.w00, blk_put h.bs 1 _ rfl, blk_far h.br (Ne.symm h.ne) _, h.wS, h.wR, h.ne, Kd.R_set h.rs h.bs (by decide) 1 x, Kd.R_set h.re h.bs (by decide) 1 x, Kd.R_set h.rb h.bs (by decide) 1 x⟩
theorem GS.ngR (h : GS w0 w W g m S R a0 a1 vs ve vb us0 us1 lb) : g ≠ R := by
 rintro rfl
 obtain ⟨cs, hg⟩ := h.rd.blk
 have := h.br
 rw [hg] at this
 injection this with this
 injection this with _ this
 exact absurd this (by decide)
/-- The result's cells are written. -/
theorem GS.putR (h : GS w0 w W g m S R a0 a1 vs ve vb us0 us1 lb) (x y : Value) : kSx.R 42 ((W.setCell ⟨R, 0, none⟩ x).setCell ⟨R, 1, none⟩ y) w.heap.size (fun _ => True) vs us0 ∧ kEx.R 70 ((W.setCell ⟨R, 0, none⟩ x).setCell ⟨R, 1, none⟩ y) w.heap.size (fun _ => True) ve us1 ∧ Rdr w0 ((W.setCell ⟨R, 0, none⟩ x).setCell ⟨R, 1, none⟩ y) g m ∧ Below w0.heap.size w0 ((W.setCell ⟨R, 0, none⟩ x).setCell ⟨R, 1, none⟩ y) ∧ KeepBut w ((W.setCell ⟨R, 0, none⟩ x).setCell ⟨R, 1, none⟩ y) g none :=
 have b1 := blk_put h.br 0 x rfl
 ⟨Kd.R_set (Kd.R_set h.rs h.br (by decide) 0 x) b1 (by decide) 1 y, Kd.R_mono (Kd.R_set (Kd.R_set h.re h.br (by decide) 0 x) b1 (by decide) 1 y) (fun _ _ => trivial), (h.rd.far h.ngR _).far h.ngR _, below_set (below_set h.bw (Nat.le_trans h.w00 h.wR)) (Nat.le_trans h.w00 h.wR), keep_far (keep_far h.kp h.wR _) h.wR _⟩
end
section
variable {ops : Array Oper} {rest : List Oper} {o : Oper} {a : Act} {Q : Exit → Act → World → Prop} {Kc : Act → World → Prop} {w0 w W : World} {g m S R : Nat} {a0 a1 vs ve vb : Value} {us0 us1 : List Unit} {lb : List ByteArray}
/-- A struct is put behind the others. -/
theorem struct_append (hw : Region.wanted o (yielded ops a.tmps) = true) (s x : Operand) (ho : o.op = .call { callee := .builtin .append, args := #[s, x], argTypes := #[23, 23] }) (hs : a.eval s = vs) (hx : a.eval x = .slice (some ⟨W.heap.size, 0, none⟩) 1 1)
  (h : GS w0 w W g m S R a0 a1 vs ve vb us0 us1 lb) {vd : Value} {usd : List Unit} {nm : ByteArray} (hnm : nm.size ≤ 20) (hD : kDx.R 46 W w.heap.size (fun _ => True) vd usd) (h1 : 1 ≤ usd.length) (h5 : usd.length ≤ 10) (hu : us0.length ≤ 10)
  (hc : ∀ v' W', GS w0 w W' g m S R a0 a1 v' ve vb (us0 ++ [()]) us1 lb → Below w.heap.size W W' → Kc (a.put o.dst v') W') :
  if Region.wanted o (yielded ops a.tmps) = true then Oper.wp Tryz.prog o a (W.alloc (.cells #[.string nm, vd] 42)) Kc Q else Kc (a.put o.dst undef) (W.alloc (.cells #[.string nm, vd] 42)) := by
 refine Kd.R_append_step kSx (w0 := W) (W := W) w.heap.size hw s x 23 42 (.agg #[(.string ⟨#[]⟩), (.slice none 0 0)]) 40 ho Tryz.underlying23 info42 rfl (by decide) (by omega) vs us0 () [.string nm, vd] (fun _ => True) (fun k => True ∧ some k ≠ vs.ownBlock) hs hx
  ⟨(nm, usd), ⟨hnm, h1, h5⟩, [.string nm], [vd], rfl, rfl, vd, rfl, Kd.R_apart' hD (Kd.R_typed h.rs) (by decide)⟩ (fun _ hk => hk) (fun _ _ => trivial) h.rs (Below.refl _ _) h.kp.1 (by omega) ?_
 intro v20 W20 hR20 hb20 hg20 _
 exact hc v20 W20 (h.growS hR20 hb20 hg20) hb20
/-- An enum is put behind the others. -/
theorem enum_append (hgd : o.guard = none) (s x : Operand) (ho : o.op = .call { callee := .builtin .append, args := #[s, x], argTypes := #[24, 24] }) (hs : a.eval s = ve) (hx : a.eval x = .slice (some ⟨W.heap.size, 0, none⟩) 1 1)
  (h : GS w0 w W g m S R a0 a1 vs ve vb us0 us1 lb) {vw : Value} {ws : List ByteArray} {nm : ByteArray} (hG : nm.size ≤ 20 ∧ ws.length ≤ 10 ∧ ∀ x ∈ ws, x.size ≤ 20) (hD : Kd.string.R 9 W w.heap.size (fun k => some k ≠ vb.ownBlock) vw ws) (hu : us1.length ≤ 10)
  (hc : ∀ v' W', GS w0 w W' g m S R a0 a1 vs v' vb us0 (us1 ++ [()]) lb → Below w.heap.size W W' → wpList Tryz.prog ops Q rest (a.put o.dst v') W') :
  wpList Tryz.prog ops Q (o :: rest) a (W.alloc (.cells #[.string nm, vw] 70)) := by
 refine Kd.R_append kEx (w0 := W) (W := W) w.heap.size hgd s x 24 70 (.agg #[(.string ⟨#[]⟩), (.slice none 0 0)]) 40 ho Tryz.underlying24 info70 rfl (by decide) (by omega) ve us1 () [.string nm, vw] (fun k => some k ≠ vb.ownBlock) (fun k => some k ≠ vb.ownBlock ∧ some k ≠ ve.ownBlock) hs hx
  ⟨(⟨nm, ws⟩ : SE), hG, k70_mkM _ _ _ (⟨nm, ws⟩ : SE) (Kd.R_apart' hD (Kd.R_typed h.re) (by decide))⟩ (fun _ hk => hk) (fun k hk e => Nat.not_le.2 (Kd.R_lt h.rb k e.symm) hk) h.re (Below.refl _ _) h.kp.1 (by omega) ?_
 intro v20 W20 hR20 hb20 hg20 _
 exact hc v20 W20 (h.growE hR20 hb20 hg20) hb20
/-- A text is put behind the others. -/
theorem text_append (hgd : o.guard = none) (s x : Operand) (ho : o.op = .call { callee := .builtin .append, args := #[s, x], argTypes := #[52, 52] }) (hs : a.eval s = vb) (hx : a.eval x = .slice (some ⟨W.heap.size, 0, none⟩) 1 1)
  (h : GS w0 w W g m S R a0 a1 vs ve vb us0 us1 lb) (t : ByteArray) (hu : lb.length ≤ 100)
  (hc : ∀ v' W', GS w0 w W' g m S R a0 a1 vs ve v' us0 us1 (lb ++ [t]) → wpList Tryz.prog ops Q rest (a.put o.dst v') W') :
  wpList Tryz.prog ops Q (o :: rest) a (W.alloc (.cells #[.string t] 9)) := by
 refine Kd.R_append Kd.string (w0 := W) (W := W) w.heap.size hgd s x 52 9 (.string ⟨#[]⟩) 16 ho Tryz.underlying52 info9 rfl (by decide) (by omega) vb lb t [.string t] (fun _ => True) (fun _ => False) hs hx rfl (fun _ hk => hk.elim) (fun _ _ => trivial) h.rb (Below.refl _ _) h.kp.1 (by omega) ?_
 intro v20 W20 hR20 hb20 hg20 hat
 exact hc v20 W20 (h.growB hR20 hb20 hg20 hat)
/-- Two texts are. -/
theorem texts_append (hgd : o.guard = none) (s x : Operand) (ho : o.op = .call { callee := .builtin .append, args := #[s, x], argTypes := #[52, 52] }) (hs : a.eval s = vb) {A : Option Addr} {c : Nat} (hx : a.eval x = .slice A 2 c)
  (h : GS w0 w W g m S R a0 a1 vs ve vb us0 us1 lb) (ts : List ByteArray) (hts : ts.length = 2) (hC : Kd.string.C W A 2 ts) (hu : lb.length ≤ 100)
  (hc : ∀ v' W', GS w0 w W' g m S R a0 a1 vs ve v' us0 us1 (lb ++ ts) → wpList Tryz.prog ops Q rest (a.put o.dst v') W') :
  wpList Tryz.prog ops Q (o :: rest) a W := by
 refine Kd.R_append_rows Kd.string (w0 := W) (W := W) w.heap.size hgd s x 52 9 (.string ⟨#[]⟩) 16 ho Tryz.underlying52 info9 rfl (by decide) (by omega) vb lb ts A 2 c (fun _ => True) (fun _ => False) hs hx h.rb hC (fun _ _ h => h) (fun _ hk => hk.elim) (fun _ _ => trivial) (Below.refl _ _) h.kp.1 (by omega) ?_
 intro v20 W20 hR20 hb20 hg20 hat
 exact hc v20 W20 (h.growB hR20 hb20 hg20 hat)
end
end Go.Proofs.YtjeipkfeihahdaaGreatDoor
end
section
namespace Go.Proofs.YtjeipkfeihahdaaGreatDoor
set_option linter.unusedVariables false
set_option linter.unusedSimpArgs false
open Go.RowKit Go.Proofs.YtjeipkfeihahdaaGreatDoor.P Go.Proofs.YtjeipkfeihahdaaGreatDoor.Lem Go.Proofs.YtjeipkfeihahdaaGreatDoorW.PrintWords Go.Proofs.YtjeipkfeihahdaaGreatDoorW.PrintLast Go.Proofs.YtjeipkfeihahdaaGreatDoorW.PrintMore
abbrev bases0 : List ByteArray := [⟨#[66, 111, 111, 108]⟩, ⟨#[85, 56]⟩, ⟨#[85, 49, 54]⟩, ⟨#[85, 51, 50]⟩, ⟨#[73, 54, 52]⟩, ⟨#[84, 101, 120, 116]⟩]
abbrev zSch : Obj := .cells #[.slice none 0 0, .slice none 0 0] 26
theorem GS.start {w0 w W : World} {g m : Nat} {vb : Value} {lb : List ByteArray} (hI : Rdr w0 w g m) (hB : Below w0.heap.size w0 w) (hb : Below ((w.alloc zSch).alloc zSch).heap.size ((w.alloc zSch).alloc zSch) W) (hR : Kd.string.R 9 W ((w.alloc zSch).alloc zSch).heap.size (fun _ => True) vb lb) :
  GS w0 w W g m (w.alloc zSch).heap.size w.heap.size (.slice none 0 0) (.slice none 0 0) (.slice none 0 0) (.slice none 0 0) vb [] [] lb := by
 have hb2 : Below w.heap.size w W := (below_alloc (below_alloc (Below.refl _ _) zSch) zSch).trans (hb.mono (by simp only [World.size_alloc]; omega))
 have hr : ((w.alloc zSch).alloc zSch).heap[w.heap.size]? = some zSch := blk_alloc (heap_alloc_new w zSch) _
 have hs : ((w.alloc zSch).alloc zSch).heap[(w.alloc zSch).heap.size]? = some zSch := heap_alloc_new _ _
 exact ⟨hI.below hb2, hB.trans (hb2.mono hB.size), KeepBut.of_below hb2 g none, hB.size, (hb.block _ (blk_lt hs)).trans hs, (hb.block _ (blk_lt hr)).trans hr, by simp only [World.size_alloc]; omega, Nat.le_refl _, by simp only [World.size_alloc]; omega, Kd.R_nil _ _ _ _ _, Kd.R_nil _ _ _ _ _, Kd.R_lower hR (by simp only [World.size_alloc]; omega)⟩
set_option maxHeartbeats 4000000 in
set_option maxRecDepth 100000 in
theorem schemax (w0 w : World) (g m : Nat) (hI : Rdr w0 w g m) (hB : Below w0.heap.size w0 w) (hm : m ≤ 700000) :
  Calls Tryz.prog 23 #[.pointer (some ⟨g, 0, none⟩)] w fun e w' => ∃ v0 v1 us0 us1, e = .returned (.agg #[v0, v1]) ∧ 1 ≤ us0.length ∧ us0.length ≤ 2 ∧ us1.length ≤ 1 ∧ kSx.R 42 w' w.heap.size (fun _ => True) v0 us0 ∧ kEx.R 70 w' w.heap.size (fun _ => True) v1 us1 ∧ Rdr w0 w' g (m + 200) ∧ Below w0.heap.size w0 w' ∧ KeepBut w w' g none := by
 have HI := Aside0.mk hI
 have HB := Aside0.mk hB
 clear hI hB
 go_enter Tryz.func23, Tryz.ntmps23
 go_upto_region 3 with ((with_reducible refine gate_dst (N := 6) rfl ?_); refine Kd.R_lit Kd.string _ 9 ?hg (N := 6) ?hd (xs := bases0) (inner := [.string ⟨#[66, 111, 111, 108]⟩, .string ⟨#[85, 56]⟩, .string ⟨#[85, 49, 54]⟩, .string ⟨#[85, 51, 50]⟩, .string ⟨#[73, 54, 52]⟩, .string ⟨#[84, 101, 120, 116]⟩]) (ok := fun _ => True) (okp := fun _ => True) ?hr ?hp (fun _ hk => hk) trivial (Below.refl _ _) (Nat.le_refl _) (by simp) ?_; (case hd => rfl); (case hg => rfl); (case hr => first | (go_simp; done) | (go_simp; rfl)); (case hp => exact (Reps.one rfl (Reps.one rfl (Reps.one rfl (Reps.one rfl (Reps.one rfl (Reps.one rfl (Reps.none _ _)))))))); intro vb W1 hR hb hg_ hnew_; have HR := Aside0.mk hR; have HBB := Aside0.mk hb; clear hR hb hg_ hnew_)
 have G1 := Aside0.mk (GS.start HI.out HB.out HBB.out HR.out)
 have hsz : (w.alloc zSch).heap.size = w.heap.size + 1 := by simp [World.size_alloc]
 rw [hsz] at G1
 clear hsz HI HB HR HBB
 obtain ⟨S, hS⟩ : ∃ S, S = w.heap.size + 1 := ⟨_, rfl⟩
 obtain ⟨R, hR⟩ : ∃ R, R = w.heap.size := ⟨_, rfl⟩
 rw [← hS, ← hR] at G1
 rw [← hS, ← hR]
 clear hS hR
 obtain ⟨lb, hlb⟩ : ∃ lb, lb = bases0 := ⟨_, rfl⟩
 rw [← hlb] at G1
 have HLB := Aside0.mk (show lb ≠ [] ∧ lb.length ≤ 6 ∧ ∀ s ∈ lb, s.size ≤ 20 from by subst hlb; exact ⟨by simp, by simp, by decide⟩)
 clear hlb
 go_upto_region 6 with (first | (go_at_call 24; refine (pickx w0 W1 g m 2 G1.out.rd G1.out.bw (by omega) (by omega)).mono ?_; rintro e W2 ⟨p, rfl, _, _, hI, hb, hk⟩; have G2 := Aside0.mk (G1.out.call hI hb hk); clear hI hb hk; have x2 := (blk_cell G2.out.bs 1).trans rfl; have f2 := blk_frozen G2.out.bs 1; by_cases hp : p = 0; skip; rotate_left; (obtain ⟨WZ, rfl⟩ : ∃ W, W = W2 := ⟨_, rfl⟩; obtain ⟨vz, rfl⟩ : ∃ v, v = vb := ⟨_, rfl⟩; obtain ⟨lz, rfl⟩ : ∃ l, l = lb := ⟨_, rfl⟩; have GZ := Aside0.mk (show ∃ ve uz, List.length uz ≤ 1 ∧ GS w0 w WZ g (m + 1) S R (.slice none 0 0) ve (.slice none 0 0) ve vz [] uz lz from ⟨_, [], by simp, G2.out⟩); have HLZ := Aside0.mk (show lz ≠ [] ∧ lz.length ≤ 10 ∧ ∀ s ∈ lz, s.size ≤ 20 from ⟨HLB.out.1, by have := HLB.out.2.1; omega, HLB.out.2.2⟩); clear G1 G2 x2 f2 HLB); rotate_left) | ((with_reducible refine gate_dst (N := 12) rfl ?_); refine Kd.R_lit Kd.string _ 9 ?hg (N := 12) ?hd (xs := [(⟨#[108, 111, 119]⟩ : ByteArray), (⟨#[109, 105, 100]⟩ : ByteArray), (⟨#[104, 105, 103, 104]⟩ : ByteArray)]) (inner := [.string (⟨#[108, 111, 119]⟩ : ByteArray), .string (⟨#[109, 105, 100]⟩ : ByteArray), .string (⟨#[104, 105, 103, 104]⟩ : ByteArray)]) (ok := fun k => some k ≠ vb.ownBlock) (okp := fun _ => False) ?hr ?hp (fun _ hk => hk.elim) (fun e => Nat.lt_irrefl _ (Kd.R_lt G2.out.rb _ e.symm)) (Below.refl _ _) (Nat.le_refl _) (by simp) ?_; (case hd => rfl); (case hg => rfl); (case hr => first | (go_simp; done) | (go_simp; rfl)); (case hp => exact (Reps.one rfl (Reps.one rfl (Reps.one rfl (Reps.none _ _))))); intro vw W3 hRw hb3 _ _; obtain ⟨AW, cW, rfl⟩ := Kd.R_slice hRw; have G3 := Aside0.mk (G2.out.below hb3); have HW := Aside0.mk (Kd.R_lower hRw G2.out.kp.1); have x3 := (blk_cell G3.out.bs 1).trans rfl; have f3 := blk_frozen G3.out.bs 1; clear hRw hb3) | ((with_reducible refine gate_builtin (b := .append) (xs := #[.tmp 11, .tmp 14]) rfl ?_); at_builtin; refine enum_append rfl _ _ rfl rfl rfl G3.out (nm := ⟨#[84, 111, 110, 101]⟩) ⟨by decide, by decide, by decide⟩ HW.out (by decide) ?_; intro ve W4 hG4 _; obtain ⟨AE, cE, rfl⟩ := Kd.R_slice hG4.re; have G4 := Aside0.mk hG4; have x4 := (blk_cell G4.out.bs 1).trans rfl; have f4 := blk_frozen G4.out.bs 1; clear hG4) | ((with_reducible refine gate_builtin (b := .append) (xs := #[.tmp 17, .tmp 18]) rfl ?_); at_builtin; refine text_append rfl _ _ rfl rfl (by first | rfl | (go_simp; done) | (go_simp; rfl)) (G4.out.put1 _) ⟨#[84, 111, 110, 101]⟩ (by have := HLB.out.2.1; omega) ?_; intro vz WZ hGZ; obtain ⟨lz, hlz⟩ : ∃ l, l = lb ++ [(⟨#[84, 111, 110, 101]⟩ : ByteArray)] := ⟨_, rfl⟩; rw [← hlz] at hGZ; have GZ := Aside0.mk (show ∃ ve uz, List.length uz ≤ 1 ∧ GS w0 w WZ g (m + 1) S R (.slice none 0 0) ve (.slice none 0 0) ve vz [] uz lz from ⟨_, _, by decide, hGZ⟩); have HLZ := Aside0.mk (show lz ≠ [] ∧ lz.length ≤ 10 ∧ ∀ s ∈ lz, s.size ≤ 20 from by rw [hlz]; exact ⟨by simp, by have := HLB.out.2.1; simp only [List.length_append, List.length_singleton]; omega, fun s hs => by rcases List.mem_append.1 hs with h | h; exact HLB.out.2.2 s h; rw [List.mem_singleton.1 h]; decide⟩); clear hGZ hlz G1 G2 G3 G4 HLB HW x2 f2 x3 f3 x4 f4))
 all_goals (
  obtain ⟨ve, uz, huz, hGZ⟩ := GZ.out
  have GY := Aside0.mk hGZ
  clear hGZ GZ
  obtain ⟨v0, hv0⟩ : ∃ v0, v0 = Value.slice none 0 0 := ⟨_, rfl⟩
  obtain ⟨AE, cE, rfl⟩ := Kd.R_slice GY.out.re
  obtain ⟨AB, cB, rfl⟩ := Kd.R_slice GY.out.rb
  go_upto_region 7 with (go_at_call 24; refine (pickx w0 WZ g (m + 1) 2 GY.out.rd GY.out.bw (by omega) (by omega)).mono ?_; rintro e W3 ⟨p3, rfl, _, _, hI, hb, hk⟩; have G3 := Aside0.mk (GY.out.call hI hb hk); clear hI hb hk GY; by_cases hp3 : p3 = 0)
  ·skip
   obtain ⟨lb, hlb⟩ : ∃ l, l = lz := ⟨_, rfl⟩
   rw [← hlb] at G3
   have HLB := Aside0.mk (show lb ≠ [] ∧ lb.length ≤ 10 ∧ ∀ s ∈ lb, s.size ≤ 20 from by rw [hlb]; exact HLZ.out)
   have hlbn : lz.length = lb.length := by rw [hlb]
   rw [hlbn]
   clear hlbn hlb HLZ
   obtain ⟨mm, hmm⟩ : ∃ mm, mm = m + 1 + 1 := ⟨_, rfl⟩
   rw [← hmm, ← hv0] at G3
   have G5 := Aside0.mk (GS.below G3.out (below_drew1 (Below.refl _ _)))
   clear G3
   have x5 := (blk_cell G5.out.bs 0).trans rfl
   refine start_ (n := 10) (S := fun w' => w'.cell? ⟨S, 0, none⟩ = some v0) (ds := [9]) #[false, false, false, false, false, false, false, false, false, false] (by kernel_rfl) rfl rfl (x5) (fun hHeld => ?_)
   refine pu_ 0 (some 23) rfl ?_
   refine pu_ 2 (some 25) rfl ?_
   refine pu_ 3 (some 26) rfl ?_
   refine t1_ 1 (some 24) rfl hHeld ?_
   refine on_ 4 (some 27) rfl (fun K hK => ?_)
   refine goes_ Tryz.func38 (by kernel_rfl) rfl #[.pointer (some ⟨g, 0, none⟩), .slice AB lb.length cB] (by rfl) rfl rfl (by simp only [List.map_toArray, List.map_cons, List.map_nil]; rfl) ?_
   with_reducible refine (declsx w0 _ g mm AB cB lb G5.out.rd G5.out.bw (by omega) HLB.out.1 (Nat.le_trans HLB.out.2.1 (by decide)) HLB.out.2.2 (Kd.R_reads' G5.out.rb).2.2 (Kd.R_reads' G5.out.rb).2.1 (far_slice (G5.out.rd.ne G5.out.rb (by decide)))).mono ?_
   rintro e W6 ⟨vd, ud, rfl, hd1, hd5, hD, hI, hB, hk⟩
   refine ⟨_, rfl, ?_⟩
   obtain ⟨AD, cd, rfl⟩ := Kd.R_slice hD
   have G6 := Aside0.mk (G5.out.call hI hB hk)
   have HD := Aside0.mk (Kd.R_lower hD G5.out.kp.1)
   have x6 := (blk_cell G6.out.bs 0).trans rfl
   clear hI hB hk hD
   refine hK.out _ _ (x6) (fun hHeld => ?_)
   clear hK K
   refine no_ 27 ?_
   refine pu_ 5 (some 28) rfl ?_
   refine on_ 6 (some 29) rfl (fun K hK => ?_)
   refine va_ ?_
   refine hK.out _ _ (pw_cell_below (below_alloc (Below.refl _ _) _) x6) (fun hHeld => ?_)
   clear hK K
   refine no_ 29 ?_
   refine on_ 7 (some 30) rfl (fun K hK => ?_)
   refine struct_append (by rfl) (.tmp 24) (.tmp 29) rfl (by first | rfl | (go_simp; done) | (go_simp; rfl)) (by first | rfl | (go_simp; done) | (go_simp; rfl)) G6.out (nm := (⟨#[80, 97, 114, 116]⟩ : ByteArray)) (by decide) HD.out (by omega) (by omega) (by first | omega | decide) ?_
   intro v7 W7 hG7 hb7
   obtain ⟨A7, n7, c7, rfl⟩ : ∃ A n c, v7 = Value.slice A n c := by obtain ⟨A, c, e⟩ := Kd.R_slice hG7.rs; exact ⟨A, _, c, e⟩
   have G7 := Aside0.mk hG7
   have G8 := Aside0.mk (hG7.put0 (.slice A7 n7 c7))
   have x7 := (blk_cell G7.out.bs 0).trans rfl
   have f7 := blk_frozen G7.out.bs 0
   clear hG7 hb7
   refine hK.out _ _ (x7) (fun hHeld => ?_)
   clear hK K
   refine no_ 30 ?_
   refine pu_ 8 (some 31) rfl ?_
   refine la_ 9 none rfl (fun K hK => ?_)
   refine sk_ ?_
   refine hK.out _ _ ?_
   clear hK K
   refine done_ (by kernel_rfl) ?_
   go_upto_region 9 with (first | ((with_reducible refine gate_dst (N := 33) rfl ?_); refine Kd.R_lit Kd.string _ 9 ?hg (N := 33) ?hd (xs := [(⟨#[80, 97, 114, 116]⟩ : ByteArray), (⟨#[80, 97, 114, 116]⟩ : ByteArray)]) (inner := [.string (⟨#[80, 97, 114, 116]⟩ : ByteArray), .string (⟨#[80, 97, 114, 116]⟩ : ByteArray)]) (ok := fun _ => True) (okp := fun _ => False) ?hr ?hp (fun _ hk => hk.elim) trivial (Below.refl _ _) (Nat.le_refl _) (by simp) ?_; (case hd => rfl); (case hg => rfl); (case hr => first | (go_simp; done) | (go_simp; rfl)); (case hp => exact (Reps.one rfl (Reps.one rfl (Reps.none _ _)))); intro v33 W8 hR8 hb8 _ _; obtain ⟨A33, c33, rfl⟩ := Kd.R_slice hR8; have G10 := Aside0.mk (GS.below G8.out hb8); have HR8 := Aside0.mk hR8; clear hR8 hb8) | ((with_reducible refine gate_builtin (b := .append) (xs := #[.tmp 32, .tmp 33]) rfl ?_); at_builtin; refine texts_append rfl _ _ rfl rfl rfl G10.out [(⟨#[80, 97, 114, 116]⟩ : ByteArray), (⟨#[80, 97, 114, 116]⟩ : ByteArray)] rfl (Kd.R_reads' HR8.out).2.2 (by have := HLB.out.2.1; omega) ?_; intro v9 W9 hG9; have G9 := Aside0.mk hG9; clear hG9))
   obtain ⟨AB, cB, rfl⟩ := Kd.R_slice G9.out.rb
   obtain ⟨lb, hlb⟩ : ∃ l, l = lb ++ [(⟨#[80, 97, 114, 116]⟩ : ByteArray), (⟨#[80, 97, 114, 116]⟩ : ByteArray)] := ⟨_, rfl⟩
   rw [← hlb] at G9
   rw [← hlb]
   have HLB := Aside0.mk (show lb ≠ [] ∧ lb.length ≤ 12 ∧ ∀ s ∈ lb, s.size ≤ 20 from by rw [hlb]; exact ⟨by simp, by have := HLB.out.2.1; simp only [List.length_append, List.length_cons, List.length_nil]; omega, fun s hs => by rcases List.mem_append.1 hs with h | h; exact HLB.out.2.2 s h; simp only [List.mem_cons, List.not_mem_nil, or_false, or_self] at h; rw [h]; decide⟩)
   clear hlb
   obtain ⟨mm, hmm2⟩ : ∃ m2, m2 = mm + 60 := ⟨_, rfl⟩
   rw [← hmm2] at G9
   obtain ⟨v0, hv0⟩ : ∃ v, v = Value.slice A7 n7 c7 := ⟨_, rfl⟩
   rw [← hv0] at G9
   clear G5 G6 G7 G8 G10 x5 x6 x7 f7 HD HR8
   have G5 := Aside0.mk (GS.below G9.out (below_drew1 (Below.refl _ _)))
   clear G9
   have x5 := (blk_cell G5.out.bs 0).trans rfl
   refine start_ (n := 10) (S := fun w' => w'.cell? ⟨S, 0, none⟩ = some v0) (ds := [9]) #[false, false, false, false, false, false, false, false, false, false] (by kernel_rfl) rfl rfl (x5) (fun hHeld => ?_)
   refine pu_ 0 (some 35) rfl ?_
   refine pu_ 2 (some 37) rfl ?_
   refine pu_ 3 (some 38) rfl ?_
   refine t1_ 1 (some 36) rfl hHeld ?_
   refine on_ 4 (some 39) rfl (fun K hK => ?_)
   refine goes_ Tryz.func38 (by kernel_rfl) rfl #[.pointer (some ⟨g, 0, none⟩), .slice AB lb.length cB] (by rfl) rfl rfl (by simp only [List.map_toArray, List.map_cons, List.map_nil]; rfl) ?_
   with_reducible refine (declsx w0 _ g mm AB cB lb G5.out.rd G5.out.bw (by omega) HLB.out.1 (Nat.le_trans HLB.out.2.1 (by decide)) HLB.out.2.2 (Kd.R_reads' G5.out.rb).2.2 (Kd.R_reads' G5.out.rb).2.1 (far_slice (G5.out.rd.ne G5.out.rb (by decide)))).mono ?_
   rintro e W6 ⟨vd, ud, rfl, hd1, hd5, hD, hI, hB, hk⟩
   refine ⟨_, rfl, ?_⟩
   obtain ⟨AD, cd, rfl⟩ := Kd.R_slice hD
   have G6 := Aside0.mk (G5.out.call hI hB hk)
   have HD := Aside0.mk (Kd.R_lower hD G5.out.kp.1)
   have x6 := (blk_cell G6.out.bs 0).trans rfl
   clear hI hB hk hD
   refine hK.out _ _ (x6) (fun hHeld => ?_)
   clear hK K
   refine no_ 39 ?_
   refine pu_ 5 (some 40) rfl ?_
   refine on_ 6 (some 41) rfl (fun K hK => ?_)
   refine va_ ?_
   refine hK.out _ _ (pw_cell_below (below_alloc (Below.refl _ _) _) x6) (fun hHeld => ?_)
   clear hK K
   refine no_ 41 ?_
   refine on_ 7 (some 42) rfl (fun K hK => ?_)
   refine struct_append (by rfl) (.tmp 36) (.tmp 41) rfl (by first | rfl | (go_simp; done) | (go_simp; rfl)) (by first | rfl | (go_simp; done) | (go_simp; rfl)) G6.out (nm := (⟨#[77, 97, 105, 110]⟩ : ByteArray)) (by decide) HD.out (by omega) (by omega) (by first | omega | decide) ?_
   intro v7 W7 hG7 hb7
   obtain ⟨A7, n7, c7, rfl⟩ : ∃ A n c, v7 = Value.slice A n c := by obtain ⟨A, c, e⟩ := Kd.R_slice hG7.rs; exact ⟨A, _, c, e⟩
   have G7 := Aside0.mk hG7
   have G8 := Aside0.mk (hG7.put0 (.slice A7 n7 c7))
   have x7 := (blk_cell G7.out.bs 0).trans rfl
   have f7 := blk_frozen G7.out.bs 0
   clear hG7 hb7
   refine hK.out _ _ (x7) (fun hHeld => ?_)
   clear hK K
   refine no_ 42 ?_
   refine pu_ 8 (some 43) rfl ?_
   refine la_ 9 none rfl (fun K hK => ?_)
   refine sk_ ?_
   refine hK.out _ _ ?_
   clear hK K
   refine done_ (by kernel_rfl) ?_
   have y0 := (blk_cell G8.out.bs 0).trans rfl
   have y1 := (blk_cell G8.out.bs 1).trans rfl
   have y2 := (blk_cell G8.out.br 0).trans rfl
   have y3 := (blk_cell G8.out.br 1).trans rfl
   have y4 := blk_frozen G8.out.br 0
   have y5 := blk_frozen G8.out.br 1
   clear x7 f7 x6 x5
   go_wp2_with fail
   refine bodyPost_ret (results_cell_row rfl _ _ R 26 #[.slice A7 n7 c7, .slice AE uz.length cE] (0, 0) _ rfl (blk_put (blk_put G8.out.br 0 _ rfl) 1 _ rfl) Tryz.underlying26 rfl (by kernel_rfl)) rfl ?_
   obtain ⟨q1, q2, q3, q4, q5⟩ := G8.out.putR (.slice A7 n7 c7) (.slice AE uz.length cE)
   exact ⟨_, _, _, _, rfl, by simp, by simp, huz, q1, q2, q3.le (by omega), q4, q5⟩
  ·skip
   obtain ⟨lb, hlb⟩ : ∃ l, l = lz := ⟨_, rfl⟩
   rw [← hlb] at G3
   have HLB := Aside0.mk (show lb ≠ [] ∧ lb.length ≤ 10 ∧ ∀ s ∈ lb, s.size ≤ 20 from by rw [hlb]; exact HLZ.out)
   have hlbn : lz.length = lb.length := by rw [hlb]
   rw [hlbn]
   clear hlbn hlb HLZ
   obtain ⟨mm, hmm⟩ : ∃ mm, mm = m + 1 + 1 := ⟨_, rfl⟩
   rw [← hmm, ← hv0] at G3
   have G5 := Aside0.mk (GS.below G3.out (below_drew1 (Below.refl _ _)))
   clear G3
   have x5 := (blk_cell G5.out.bs 0).trans rfl
   refine start_ (n := 10) (S := fun w' => w'.cell? ⟨S, 0, none⟩ = some v0) (ds := [9]) #[false, false, false, false, false, false, false, false, false, false] (by kernel_rfl) rfl rfl (x5) (fun hHeld => ?_)
   refine pu_ 0 (some 35) rfl ?_
   refine pu_ 2 (some 37) rfl ?_
   refine pu_ 3 (some 38) rfl ?_
   refine t1_ 1 (some 36) rfl hHeld ?_
   refine on_ 4 (some 39) rfl (fun K hK => ?_)
   refine goes_ Tryz.func38 (by kernel_rfl) rfl #[.pointer (some ⟨g, 0, none⟩), .slice AB lb.length cB] (by rfl) rfl rfl (by simp only [List.map_toArray, List.map_cons, List.map_nil]; rfl) ?_
   with_reducible refine (declsx w0 _ g mm AB cB lb G5.out.rd G5.out.bw (by omega) HLB.out.1 (Nat.le_trans HLB.out.2.1 (by decide)) HLB.out.2.2 (Kd.R_reads' G5.out.rb).2.2 (Kd.R_reads' G5.out.rb).2.1 (far_slice (G5.out.rd.ne G5.out.rb (by decide)))).mono ?_
   rintro e W6 ⟨vd, ud, rfl, hd1, hd5, hD, hI, hB, hk⟩
   refine ⟨_, rfl, ?_⟩
   obtain ⟨AD, cd, rfl⟩ := Kd.R_slice hD
   have G6 := Aside0.mk (G5.out.call hI hB hk)
   have HD := Aside0.mk (Kd.R_lower hD G5.out.kp.1)
   have x6 := (blk_cell G6.out.bs 0).trans rfl
   clear hI hB hk hD
   refine hK.out _ _ (x6) (fun hHeld => ?_)
   clear hK K
   refine no_ 39 ?_
   refine pu_ 5 (some 40) rfl ?_
   refine on_ 6 (some 41) rfl (fun K hK => ?_)
   refine va_ ?_
   refine hK.out _ _ (pw_cell_below (below_alloc (Below.refl _ _) _) x6) (fun hHeld => ?_)
   clear hK K
   refine no_ 41 ?_
   refine on_ 7 (some 42) rfl (fun K hK => ?_)
   refine struct_append (by rfl) (.tmp 36) (.tmp 41) rfl (by first | rfl | (go_simp; done) | (go_simp; rfl)) (by first | rfl | (go_simp; done) | (go_simp; rfl)) G6.out (nm := (⟨#[77, 97, 105, 110]⟩ : ByteArray)) (by decide) HD.out (by omega) (by omega) (by first | omega | decide) ?_
   intro v7 W7 hG7 hb7
   obtain ⟨A7, n7, c7, rfl⟩ : ∃ A n c, v7 = Value.slice A n c := by obtain ⟨A, c, e⟩ := Kd.R_slice hG7.rs; exact ⟨A, _, c, e⟩
   have G7 := Aside0.mk hG7
   have G8 := Aside0.mk (hG7.put0 (.slice A7 n7 c7))
   have x7 := (blk_cell G7.out.bs 0).trans rfl
   have f7 := blk_frozen G7.out.bs 0
   clear hG7 hb7
   refine hK.out _ _ (x7) (fun hHeld => ?_)
   clear hK K
   refine no_ 42 ?_
   refine pu_ 8 (some 43) rfl ?_
   refine la_ 9 none rfl (fun K hK => ?_)
   refine sk_ ?_
   refine hK.out _ _ ?_
   clear hK K
   refine done_ (by kernel_rfl) ?_
   have y0 := (blk_cell G8.out.bs 0).trans rfl
   have y1 := (blk_cell G8.out.bs 1).trans rfl
   have y2 := (blk_cell G8.out.br 0).trans rfl
   have y3 := (blk_cell G8.out.br 1).trans rfl
   have y4 := blk_frozen G8.out.br 0
   have y5 := blk_frozen G8.out.br 1
   clear x7 f7 x6 x5
   go_wp2_with fail
   refine bodyPost_ret (results_cell_row rfl _ _ R 26 #[.slice A7 n7 c7, .slice AE uz.length cE] (0, 0) _ rfl (blk_put (blk_put G8.out.br 0 _ rfl) 1 _ rfl) Tryz.underlying26 rfl (by kernel_rfl)) rfl ?_
   obtain ⟨q1, q2, q3, q4, q5⟩ := G8.out.putR (.slice A7 n7 c7) (.slice AE uz.length cE)
   exact ⟨_, _, _, _, rfl, by simp, by simp, huz, q1, q2, q3.le (by omega), q4, q5⟩)
end Go.Proofs.YtjeipkfeihahdaaGreatDoor
end
section
namespace Go.Proofs.YtjeipkfeihahdaaGreatDoor
set_option linter.unusedVariables false
set_option linter.unusedSimpArgs false
open Go.RowKit Go.Proofs.YtjeipkfeihahdaaGreatDoor.P Go.Proofs.YtjeipkfeihahdaaGreatDoor.Lem Go.Proofs.YtjeipkfeihahdaaGreatDoorW.PrintWords Go.Proofs.YtjeipkfeihahdaaGreatDoorW.PrintLast Go.Proofs.YtjeipkfeihahdaaGreatDoorW.PrintMore
/-- Cell j of a field may hold u. -/
def FitsAt (j : Nat) (u : Value) : Prop := ∀ x : SD, GoodD x → ∃ x' : SD, GoodD x' ∧ (cD x).take j ++ [u] ++ (cD x).drop (j + 1) = cD x'
theorem fits0 (s : ByteArray) (h : s.size ≤ 20) : FitsAt 0 (.string s) := fun x hx => ⟨⟨s, x.f1, x.f2, x.f3, x.f4⟩, ⟨h, hx.2⟩, rfl⟩
theorem fits1 (n : Int) (h : -1000000 ≤ n ∧ n ≤ 1000000) : FitsAt 1 (.int .i64 n) := fun x hx => ⟨⟨x.f0, n, x.f2, x.f3, x.f4⟩, ⟨hx.1, hx.2.1, h, hx.2.2.2⟩, rfl⟩
theorem fits2 (s : ByteArray) (h : s.size ≤ 20) : FitsAt 2 (.string s) := fun x hx => ⟨⟨x.f0, x.f1, ⟨s, x.f2.f1⟩, x.f3, x.f4⟩, ⟨hx.1, h, hx.2.2⟩, rfl⟩
theorem fits5 (n : Int) (h : -1000000 ≤ n ∧ n ≤ 1000000) : FitsAt 5 (.int .i64 n) := fun x hx => ⟨⟨x.f0, x.f1, x.f2, x.f3, n⟩, ⟨hx.1, hx.2.1, hx.2.2.1, h⟩, rfl⟩
theorem own_at {α : Type} {d : Kd α} {e base : Nat} {ok : Nat → Prop} {W : World} {v : Value} {xs : List α} (h : d.R e W base ok v xs) (hn : 0 < xs.length) : ∃ P c, v = .slice (some ⟨P, 0, none⟩) xs.length c := by
 obtain ⟨inner, ho⟩ := Kd.R_own h
 rcases ho.2 with ⟨rfl, hv⟩ | ⟨P, c, cur, rfl, _⟩
 ·omega
 ·exact ⟨P, c, rfl⟩
/-- A cell of the first field of some row is written: a row of fields stays one. -/
theorem row_store {W : World} {base : Nat} {ok : Nat → Prop} {v u : Value} {us : List Unit} (h : kDx.R 46 W base ok v us) (hn : 1 ≤ us.length) (P j : Nat) (hj : j < 6) (hu : FitsAt j u) : kDx.R 46 (W.setCell ⟨P, j, none⟩ u) base ok v us := by
 obtain ⟨b, c, rfl⟩ := own_at h (by omega)
 by_cases hb : b = P
 ·subst hb
  obtain ⟨cs, hl, ⟨x, hx, hM⟩, hc, _⟩ := Kd.R_elem h () 0 (by omega) (by omega)
  have e := k46_openM hM
  subst e
  obtain ⟨x', hx', he⟩ := hu x hx
  obtain ⟨hR, _⟩ := Kd.R_seg (okp := fun _ => False) h 0 (by omega) (by omega) hl hc (j := j) (seg := [u]) (by show j + 1 ≤ 6; omega) (x' := ()) (by
   show kDx.M W base (fun _ => False) () ((cD x).take j ++ [u] ++ (cD x).drop (j + 1))
   rw [he]
   exact kDx_mk _ _ _ x' hx') (fun _ hk => hk.elim)
  rw [units_set] at hR
  have e1 : W.setCells b ((0 : Int).toNat * kDx.sz + j) [u] = W.setCell ⟨b, j, none⟩ u := by
   show W.setCells b (0 * 6 + j) [u] = _
   rw [Nat.zero_mul, Nat.zero_add]
   rfl
  rw [e1] at hR
  exact hR
 ·have h1 := Kd.R_flat (ok' := fun k => k ≠ P) (fun hp => hp) h (fun k hk => by
   have : b = k := by simpa [Value.ownBlock] using hk
   omega)
  exact Kd.R_flat (ok := fun k => k ≠ P) (ok' := ok) (fun hp => hp) (Kd.R_far (p := ⟨P, j, none⟩) h1 (fun k hk => hk) u) (fun k hk _ => h.1 k hk)
theorem kSx_store {W : World} {base P : Nat} {ok : Nat → Prop} {v u : Value} {us : List Unit} {cur : Array Value} (h : kSx.R 42 W base ok v us) (hP : W.heap[P]? = some (.cells cur 46 (0, 0))) (j : Nat) (hj : j < 6) (hu : FitsAt j u) : kSx.R 42 (W.setCell ⟨P, j, none⟩ u) base ok v us := by
 have hne := Kd.R_ne h hP (by decide)
 obtain ⟨h0, inner, ho, hr⟩ := h
 refine ⟨h0, inner, own_move ho (fun k hk => Below.heap_setCell W ⟨P, j, none⟩ u k (fun e => hne (by rw [hk]; exact congrArg some e.symm))), hr.imp_ (fun p c hp => ?_)⟩
 obtain ⟨⟨nm, ds⟩, ⟨g1, g2, g3⟩, c0, c1, rfl, hs, vd, rfl, hD⟩ := hp
 exact ⟨(nm, ds), ⟨g1, g2, g3⟩, c0, [vd], rfl, hs, vd, rfl, row_store hD g2 P j hj hu⟩
section
variable {w0 w W W' : World} {g m m' S R : Nat} {a0 a1 vs ve vb : Value} {us0 us1 : List Unit} {lb : List ByteArray}
/-- A struct: its name, and its fields' row. -/
theorem GS.elem {g0 n c : Nat} (h : GS w0 w W g m S R a0 a1 (.slice (some ⟨g0, 0, none⟩) n c) ve vb us0 us1 lb) (i : Nat) (hi : i < n) :
  ∃ (nm : ByteArray) (P nd cd : Nat) (ud : List Unit), nm.size ≤ 20 ∧ 1 ≤ nd ∧ nd ≤ 10 ∧ ud.length = nd ∧ W.cell? ⟨g0, i * 2, none⟩ = some (.string nm) ∧ W.cell? ⟨g0, i * 2 + 1, none⟩ = some (.slice (some ⟨P, 0, none⟩) nd cd) ∧ kDx.R 46 W w.heap.size (fun _ => True) (.slice (some ⟨P, 0, none⟩) nd cd) ud := by
 obtain ⟨cs, hl, ⟨⟨nm, ds⟩, ⟨g1, g2, g3⟩, c0, c1, rfl, hs, vd, rfl, hD⟩, hc, _⟩ := Kd.R_elem h.rs () (i : Int) (by omega) (by omega)
 cases hs
 obtain ⟨P, cd, rfl⟩ := own_at hD (by exact g2)
 exact ⟨nm, P, ds.length, cd, ds, g1, g2, g3, rfl, hc 0 _ rfl, hc 1 _ rfl, Kd.R_mono hD (fun _ _ => trivial)⟩
theorem field0 {base P nd cd : Nat} {ud : List Unit} (h : kDx.R 46 W base (fun _ => True) (.slice (some ⟨P, 0, none⟩) nd cd) ud) (hn : 1 ≤ nd) : ∃ (x : SD) (cur : Array Value), GoodD x ∧ (∀ j u, (cD x)[j]? = some u → W.cell? ⟨P, j, none⟩ = some u) ∧ W.heap[P]? = some (.cells cur 46 (0, 0)) ∧ base ≤ P := by
 obtain ⟨c, hl, ⟨x, hx, hM⟩, hc, _⟩ := Kd.R_elem h () 0 (by omega) (by omega)
 have e := k46_openM hM
 subst e
 obtain ⟨cells, hcl⟩ := Kd.R_typed h P (by simp [Value.ownBlock])
 refine ⟨x, cells, hx, fun j u hu => ?_, hcl, Kd.R_base h P (by simp [Value.ownBlock])⟩
 have := hc j u hu
 have e0 : (0 : Int).toNat * kDx.sz + j = j := by show 0 * 6 + j = j; omega
 rw [e0] at this
 exact this
/-- A cell of a field is written. -/
theorem GS.store (h : GS w0 w W g m S R a0 a1 vs ve vb us0 us1 lb) {P j : Nat} {u : Value} {cur : Array Value} (hP : W.heap[P]? = some (.cells cur 46 (0, 0))) (hw : w.heap.size ≤ P) (hj : j < 6) (hu : FitsAt j u) : GS w0 w (W.setCell ⟨P, j, none⟩ u) g m S R a0 a1 vs ve vb us0 us1 lb := by
 have hg : g ≠ P := by
  rintro rfl
  obtain ⟨cs, hg⟩ := h.rd.blk
  rw [hg] at hP
  injection hP with hP
  injection hP with _ hP
  exact absurd hP (by decide)
 have hS : S ≠ P := by
  rintro rfl
  have := h.bs
  rw [hP] at this
  injection this with this
  injection this with _ this
  exact absurd this (by decide)
 have hR : R ≠ P := by
  rintro rfl
  have := h.br
  rw [hP] at this
  injection this with this
  injection this with _ this
  exact absurd this (by decide)
 exact ⟨h.rd.far hg _, below_set h.bw (Nat.le_trans h.w00 hw), keep_far h.kp hw _, h.w00, blk_far h.bs hS _, blk_far h.br hR _, h.wS, h.wR, h.ne, kSx_store h.rs hP j hj hu, Kd.R_set h.re hP (by decide) j u, Kd.R_set h.rb hP (by decide) j u⟩
theorem GS.any {v0 v1 : Value} (hI : Rdr w0 W g m) (hB : Below w0.heap.size w0 W) (hw : w0.heap.size ≤ w.heap.size) (hk : KeepBut (w.alloc zSch) W g none) (hg : g < w.heap.size) (rs : kSx.R 42 W (w.alloc zSch).heap.size (fun _ => True) v0 us0) (re : kEx.R 70 W (w.alloc zSch).heap.size (fun _ => True) v1 us1) :
  GS w0 w (W.alloc (.cells #[v0, v1] 26)) g m W.heap.size w.heap.size v0 v1 v0 v1 (.slice none 0 0) us0 us1 [] := by
 have hz : (w.alloc zSch).heap.size = w.heap.size + 1 := by simp [World.size_alloc]
 have hsz : w.heap.size + 1 ≤ W.heap.size := by have := hk.1; omega
 have hb := below_alloc (Below.refl W.heap.size W) (.cells #[v0, v1] 26)
 have hr : W.heap[w.heap.size]? = some zSch := hk.blk (heap_alloc_new w zSch) (by omega) (by simp)
 have hkw : KeepBut w W g none := (keep_alloc (KeepBut.refl w g none) zSch).trans hk (.inl rfl)
 exact ⟨hI.below hb, hB.trans (hb.mono hB.size), hkw.trans (KeepBut.of_below hb g none) (.inl rfl), hw, heap_alloc_new W _, blk_alloc hr _, by omega, Nat.le_refl _, by omega, Kd.R_lower (Kd.R_below rs hb) (by omega), Kd.R_mono (Kd.R_lower (Kd.R_below re hb) (by omega)) (fun k _ => by simp [Value.ownBlock]), Kd.R_nil _ _ _ _ _⟩
end
/-- Three texts, as they stand in a program's text. -/
theorem lit3 (W : World) (a b c : ByteArray) : Kd.string.C (W.alloc (.cells #[.string a, .string b, .string c] 9)) (some ⟨W.heap.size, 0, none⟩) 3 [a, b, c] := by
 refine ⟨rfl, by decide, fun _ => ⟨_, rfl, fun j p hj => ⟨[.string p], rfl, rfl, fun i u hi => ?_⟩⟩⟩
 have hb : (W.alloc (.cells #[.string a, .string b, .string c] 9)).heap[W.heap.size]? = some (.cells #[.string a, .string b, .string c] 9 (0, 0)) := heap_alloc_new W _
 obtain rfl : i = 0 := by
  have := (List.getElem?_eq_some_iff.1 hi).1
  simpa using this
 cases hi
 rcases j with _ | _ | _ | j
 ·cases hj; exact (blk_cell hb 0).trans rfl
 ·cases hj; exact (blk_cell hb 1).trans rfl
 ·cases hj; exact (blk_cell hb 2).trans rfl
 ·simp at hj
theorem lit3d (W : World) (a b c : ByteArray) : Kd.string.C (W.alloc (.cells #[.string a, .string b, .string c] 9)).drew (some ⟨W.heap.size, 0, none⟩) 3 [a, b, c] := lit3 W.drew a b c
theorem GS.belowd {w0 w W : World} {g m S R : Nat} {a0 a1 vs ve vb : Value} {us0 us1 : List Unit} {lb : List ByteArray} (h : GS w0 w W.drew g m S R a0 a1 vs ve vb us0 us1 lb) (o : Obj) : GS w0 w (W.alloc o).drew g m S R a0 a1 vs ve vb us0 us1 lb := GS.below h (below_alloc (Below.refl _ _) o)
theorem C_belowd {α : Type} {d : Kd α} {W : World} {A : Option Addr} {n : Nat} {xs : List α} (h : d.C W.drew A n xs) (o : Obj) : d.C (W.alloc o).drew A n xs := Kd.C_below h (below_alloc (Below.refl _ _) o)
theorem ofx3 (w0 w : World) (g m : Nat) (b c : Nat) (x y z : ByteArray) (hI : Rdr w0 w g m) (hB : Below w0.heap.size w0 w) (hm : m ≤ 900000) (hA : Kd.C Kd.string w (some ⟨b, 0, none⟩) 3 [x, y, z]) (hc : 3 ≤ c) (hf : b ≠ g) :
  Calls Tryz.prog 12 #[.pointer (some ⟨g, 0, none⟩), .slice (some ⟨b, 0, none⟩) 3 c] w fun e w' => ∃ s : ByteArray, e = .returned (.string s) ∧ s ∈ [x, y, z] ∧ Rdr w0 w' g (m + 1) ∧ Below w0.heap.size w0 w' ∧ KeepBut w w' g none :=
 ofx w0 w g m (some ⟨b, 0, none⟩) c [x, y, z] hI hB hm (by simp) (by simp) hA hc (fun ad he _ => by cases he; exact hf)
theorem GS.lit3 {w0 w W : World} {g m S R : Nat} {a0 a1 vs ve vb : Value} {us0 us1 : List Unit} {lb : List ByteArray} (_ : GS w0 w W g m S R a0 a1 vs ve vb us0 us1 lb) (a b c : ByteArray) : Kd.string.C (W.alloc (.cells #[.string a, .string b, .string c] 9)) (some ⟨W.heap.size, 0, none⟩) 3 [a, b, c] := Go.Proofs.YtjeipkfeihahdaaGreatDoor.lit3 W a b c
/-- Two texts of one's own. -/
theorem own2 (W : World) (ok : Nat → Prop) (a b : ByteArray) (hok : ok W.heap.size) : Kd.string.R 9 (W.alloc (.cells #[.string a, .string b] 9)) W.heap.size ok (.slice (some ⟨W.heap.size, 0, none⟩) 2 2) [a, b] :=
 Kd.R_of_own (enc := Value.string) ⟨rfl, .inr ⟨W.heap.size, 2, #[.string a, .string b], rfl, Nat.le_refl _, heap_alloc_new W _, Nat.le_refl _, by decide, rfl, rfl⟩⟩ (fun k hk => by
  have : W.heap.size = k := by simpa [Value.ownBlock] using hk
  rw [← this]
  exact hok)
section
variable {ops : Array Oper} {o : Oper} {a : Act} {Q : Exit → Act → World → Prop} {Kc : Act → World → Prop} {w0 w W : World} {g m S R : Nat} {a0 a1 vs ve vb : Value} {us0 us1 : List Unit} {lb : List ByteArray}
/-- An enum is put behind the others, in a region that draws its order. -/
theorem enum_append_step (hw : Region.wanted o (yielded ops a.tmps) = true) (s x : Operand) (ho : o.op = .call { callee := .builtin .append, args := #[s, x], argTypes := #[24, 24] }) (hs : a.eval s = ve) (hx : a.eval x = .slice (some ⟨W.heap.size, 0, none⟩) 1 1)
  (h : GS w0 w W g m S R a0 a1 vs ve vb us0 us1 lb) {vw : Value} {ws : List ByteArray} {nm : ByteArray} (hG : nm.size ≤ 20 ∧ ws.length ≤ 10 ∧ ∀ x ∈ ws, x.size ≤ 20) (hD : Kd.string.R 9 W w.heap.size (fun k => some k ≠ vb.ownBlock) vw ws) (hu : us1.length ≤ 10)
  (hc : ∀ v' W', GS w0 w W' g m S R a0 a1 vs v' vb us0 (us1 ++ [()]) lb → Below w.heap.size W W' → Kc (a.put o.dst v') W') :
  if Region.wanted o (yielded ops a.tmps) = true then Oper.wp Tryz.prog o a (W.alloc (.cells #[.string nm, vw] 70)) Kc Q else Kc (a.put o.dst undef) (W.alloc (.cells #[.string nm, vw] 70)) := by
 refine Kd.R_append_step kEx (w0 := W) (W := W) w.heap.size hw s x 24 70 (.agg #[(.string ⟨#[]⟩), (.slice none 0 0)]) 40 ho Tryz.underlying24 info70 rfl (by decide) (by omega) ve us1 () [.string nm, vw] (fun k => some k ≠ vb.ownBlock) (fun k => some k ≠ vb.ownBlock ∧ some k ≠ ve.ownBlock) hs hx
  ⟨(⟨nm, ws⟩ : SE), hG, k70_mkM _ _ _ (⟨nm, ws⟩ : SE) (Kd.R_apart' hD (Kd.R_typed h.re) (by decide))⟩ (fun _ hk => hk) (fun k hk e => Nat.not_le.2 (Kd.R_lt h.rb k e.symm) hk) h.re (Below.refl _ _) h.kp.1 (by omega) ?_
 intro v20 W20 hR20 hb20 hg20 _
 exact hc v20 W20 (h.growE hR20 hb20 hg20) hb20
end
end Go.Proofs.YtjeipkfeihahdaaGreatDoor
end
