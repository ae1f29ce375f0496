/- A drawn schema: one or two structs, at most one enum, all small. -/
import Derived.Test.YtjeipkfeihahdaaDoorStubDecls
namespace Go.Proofs.YtjeipkfeihahdaaDoor
set_option linter.unusedVariables false
set_option linter.unusedSimpArgs false
open Go.RowKit Go.Proofs.YtjeipkfeihahdaaDoor.P Go.Proofs.YtjeipkfeihahdaaDoor.Lem Go.Proofs.YtjeipkfeihahdaaDoorW.PrintWords Go.Proofs.YtjeipkfeihahdaaDoorW.PrintLast Go.Proofs.YtjeipkfeihahdaaDoorW.PrintMore
/-- Where the draw of a schema stands: the reader; the schema's two cells at S, the result's at R; the rows of its own. -/
structure GS (w0 w W : World) (g m S R : Nat) (a0 a1 vs ve vb : Value) (us0 us1 : List Unit) (lb : List ByteArray) : Prop where
  rd : Rdr w0 W g m
  bw : Below w0.heap.size w0 W
  kp : KeepBut w W g none
  w00 : w0.heap.size ≤ w.heap.size
  bs : W.heap[S]? = some (.cells #[a0, a1] 26 (0, 0))
  br : W.heap[R]? = some (.cells #[.slice none 0 0, .slice none 0 0] 26 (0, 0))
  wS : w.heap.size ≤ S
  wR : w.heap.size ≤ R
  ne : S ≠ R
  rs : kSx.R 32 W w.heap.size (fun _ => True) vs us0
  re : kEx.R 65 W w.heap.size (fun k => some k ≠ vb.ownBlock) ve us1
  rb : Kd.string.R 9 W w.heap.size (fun _ => True) vb lb
section
variable {w0 w W W' : World} {g m m' S R : Nat} {a0 a1 vs ve vb : Value} {us0 us1 : List Unit} {lb : List ByteArray}
theorem GS.below (h : GS w0 w W g m S R a0 a1 vs ve vb us0 us1 lb) (hb : Below W.heap.size W W') : GS w0 w W' g m S R a0 a1 vs ve vb us0 us1 lb :=
  ⟨h.rd.below hb, h.bw.trans (hb.mono h.bw.size), h.kp.trans (KeepBut.of_below hb g none) (.inl rfl), h.w00, (hb.block S (blk_lt h.bs)).trans h.bs, (hb.block R (blk_lt h.br)).trans h.br, h.wS, h.wR, h.ne, Kd.R_below h.rs hb, Kd.R_below h.re hb, Kd.R_below h.rb hb⟩
theorem GS.call (h : GS w0 w W g m S R a0 a1 vs ve vb us0 us1 lb) (hI : Rdr w0 W' g m') (hB : Below w0.heap.size w0 W') (hk : KeepBut W W' g none) : GS w0 w W' g m' S R a0 a1 vs ve vb us0 us1 lb := by
  obtain ⟨cs, hg⟩ := h.rd.blk
  have hS : S ≠ g := by
    rintro rfl
    have := h.bs
    rw [hg] at this
    injection this with this
    injection this with _ this
    exact absurd this (by decide)
  have hR : R ≠ g := by
    rintro rfl
    have := h.br
    rw [hg] at this
    injection this with this
    injection this with _ this
    exact absurd this (by decide)
  exact ⟨hI, hB, h.kp.trans hk (.inl rfl), h.w00, hk.blk h.bs hS (by simp), hk.blk h.br hR (by simp), h.wS, h.wR, h.ne, h.rd.row h.rs (by decide) hk, h.rd.row h.re (by decide) hk, h.rd.row h.rb (by decide) hk⟩
/-- The texts' row has grown. -/
theorem GS.growB (h : GS w0 w W g m S R a0 a1 vs ve vb us0 us1 lb) {vb' : Value} {lb' : List ByteArray} (hR : Kd.string.R 9 W' w.heap.size (fun _ => True) vb' lb') (hb : Below w.heap.size W W') (hg : W.grownBy W' vb.ownBlock) (hat : vb'.ownBlock = vb.ownBlock ∨ ∃ b, vb'.ownBlock = some b ∧ W.heap.size ≤ b) : GS w0 w W' g m S R a0 a1 vs ve vb' us0 us1 lb' :=
  ⟨h.rd.grown hg (h.rd.ne h.rb (by decide)), below_weaken h.bw h.w00 hb, h.kp.trans (KeepBut.of_grown hg g) (Kd.R_base2 h.rb), h.w00, blk_grown h.bs hg (Kd.R_ne h.rb h.bs (by decide)), blk_grown h.br hg (Kd.R_ne h.rb h.br (by decide)), h.wS, h.wR, h.ne, Kd.R_over' h.rs (Kd.R_typed h.rb) (by decide) hg,
    Kd.R_mono (Kd.R_after (ok := fun _ => True) (Kd.R_mono h.re (fun _ hk => ⟨trivial, hk⟩)) hg hat) (fun _ hk => hk.2), hR⟩
/-- The enums' row has grown. -/
theorem GS.growE (h : GS w0 w W g m S R a0 a1 vs ve vb us0 us1 lb) {ve' : Value} {us1' : List Unit} (hR : kEx.R 65 W' w.heap.size (fun k => some k ≠ vb.ownBlock) ve' us1') (hb : Below w.heap.size W W') (hg : W.grownBy W' ve.ownBlock) : GS w0 w W' g m S R a0 a1 vs ve' vb us0 us1' lb :=
  ⟨h.rd.grown hg (h.rd.ne h.re (by decide)), below_weaken h.bw h.w00 hb, h.kp.trans (KeepBut.of_grown hg g) (Kd.R_base2 h.re), h.w00, blk_grown h.bs hg (Kd.R_ne h.re h.bs (by decide)), blk_grown h.br hg (Kd.R_ne h.re h.br (by decide)), h.wS, h.wR, h.ne, Kd.R_over' h.rs (Kd.R_typed h.re) (by decide) hg, hR, Kd.R_over' h.rb (Kd.R_typed h.re) (by decide) hg⟩
/-- The structs' row has grown. -/
theorem GS.growS (h : GS w0 w W g m S R a0 a1 vs ve vb us0 us1 lb) {vs' : Value} {us0' : List Unit} (hR : kSx.R 32 W' w.heap.size (fun _ => True) vs' us0') (hb : Below w.heap.size W W') (hg : W.grownBy W' vs.ownBlock) : GS w0 w W' g m S R a0 a1 vs' ve vb us0' us1 lb :=
  ⟨h.rd.grown hg (h.rd.ne h.rs (by decide)), below_weaken h.bw h.w00 hb, h.kp.trans (KeepBut.of_grown hg g) (Kd.R_base2 h.rs), h.w00, blk_grown h.bs hg (Kd.R_ne h.rs h.bs (by decide)), blk_grown h.br hg (Kd.R_ne h.rs h.br (by decide)), h.wS, h.wR, h.ne, hR, Kd.R_over' h.re (Kd.R_typed h.rs) (by decide) hg, Kd.R_over' h.rb (Kd.R_typed h.rs) (by decide) hg⟩
theorem GS.ngS (h : GS w0 w W g m S R a0 a1 vs ve vb us0 us1 lb) : g ≠ S := by
  rintro rfl
  obtain ⟨cs, hg⟩ := h.rd.blk
  have := h.bs
  rw [hg] at this
  injection this with this
  injection this with _ this
  exact absurd this (by decide)
/-- A cell of the schema is written. -/
theorem GS.put0 (h : GS w0 w W g m S R a0 a1 vs ve vb us0 us1 lb) (x : Value) : GS w0 w (W.setCell ⟨S, 0, none⟩ x) g m S R x a1 vs ve vb us0 us1 lb :=
  ⟨h.rd.far h.ngS _, below_set h.bw (Nat.le_trans h.w00 h.wS), keep_far h.kp h.wS _, h.w00, blk_put h.bs 0 _ rfl, blk_far h.br (Ne.symm h.ne) _, h.wS, h.wR, h.ne, Kd.R_set h.rs h.bs (by decide) 0 x, Kd.R_set h.re h.bs (by decide) 0 x, Kd.R_set h.rb h.bs (by decide) 0 x⟩
theorem GS.put1 (h : GS w0 w W g m S R a0 a1 vs ve vb us0 us1 lb) (x : Value) : GS w0 w (W.setCell ⟨S, 1, none⟩ x) g m S R a0 x vs ve vb us0 us1 lb :=
  ⟨h.rd.far h.ngS _, below_set h.bw (Nat.le_trans h.w00 h.wS), keep_far h.kp h.wS _, h.w00, blk_put h.bs 1 _ rfl, blk_far h.br (Ne.symm h.ne) _, h.wS, h.wR, h.ne, Kd.R_set h.rs h.bs (by decide) 1 x, Kd.R_set h.re h.bs (by decide) 1 x, Kd.R_set h.rb h.bs (by decide) 1 x⟩
theorem GS.ngR (h : GS w0 w W g m S R a0 a1 vs ve vb us0 us1 lb) : g ≠ R := by
  rintro rfl
  obtain ⟨cs, hg⟩ := h.rd.blk
  have := h.br
  rw [hg] at this
  injection this with this
  injection this with _ this
  exact absurd this (by decide)
/-- The result's cells are written. -/
theorem GS.putR (h : GS w0 w W g m S R a0 a1 vs ve vb us0 us1 lb) (x y : Value) : kSx.R 32 ((W.setCell ⟨R, 0, none⟩ x).setCell ⟨R, 1, none⟩ y) w.heap.size (fun _ => True) vs us0 ∧ kEx.R 65 ((W.setCell ⟨R, 0, none⟩ x).setCell ⟨R, 1, none⟩ y) w.heap.size (fun _ => True) ve us1 ∧ Rdr w0 ((W.setCell ⟨R, 0, none⟩ x).setCell ⟨R, 1, none⟩ y) g m ∧ Below w0.heap.size w0 ((W.setCell ⟨R, 0, none⟩ x).setCell ⟨R, 1, none⟩ y) ∧ KeepBut w ((W.setCell ⟨R, 0, none⟩ x).setCell ⟨R, 1, none⟩ y) g none :=
  have b1 := blk_put h.br 0 x rfl
  ⟨Kd.R_set (Kd.R_set h.rs h.br (by decide) 0 x) b1 (by decide) 1 y, Kd.R_mono (Kd.R_set (Kd.R_set h.re h.br (by decide) 0 x) b1 (by decide) 1 y) (fun _ _ => trivial), (h.rd.far h.ngR _).far h.ngR _, below_set (below_set h.bw (Nat.le_trans h.w00 h.wR)) (Nat.le_trans h.w00 h.wR), keep_far (keep_far h.kp h.wR _) h.wR _⟩
end
section
variable {ops : Array Oper} {rest : List Oper} {o : Oper} {a : Act} {Q : Exit → Act → World → Prop} {Kc : Act → World → Prop} {w0 w W : World} {g m S R : Nat} {a0 a1 vs ve vb : Value} {us0 us1 : List Unit} {lb : List ByteArray}
/-- A struct is put behind the others. -/
theorem struct_append (hw : Region.wanted o (yielded ops a.tmps) = true) (s x : Operand) (ho : o.op = .call { callee := .builtin .append, args := #[s, x], argTypes := #[23, 23] }) (hs : a.eval s = vs) (hx : a.eval x = .slice (some ⟨W.heap.size, 0, none⟩) 1 1)
    (h : GS w0 w W g m S R a0 a1 vs ve vb us0 us1 lb) {vd : Value} {usd : List Unit} {nm : ByteArray} (hnm : nm.size ≤ 20) (hD : kDx.R 36 W w.heap.size (fun _ => True) vd usd) (h1 : 1 ≤ usd.length) (h5 : usd.length ≤ 10) (hu : us0.length ≤ 10)
    (hc : ∀ v' W', GS w0 w W' g m S R a0 a1 v' ve vb (us0 ++ [()]) us1 lb → Below w.heap.size W W' → Kc (a.put o.dst v') W') :
    if Region.wanted o (yielded ops a.tmps) = true then Oper.wp Tryd.prog o a (W.alloc (.cells #[.string nm, vd] 32)) Kc Q else Kc (a.put o.dst undef) (W.alloc (.cells #[.string nm, vd] 32)) := by
  refine Kd.R_append_step kSx (w0 := W) (W := W) w.heap.size hw s x 23 32 (.agg #[(.string ⟨#[]⟩), (.slice none 0 0)]) 40 ho Tryd.underlying23 info32 rfl (by decide) (by omega) vs us0 () [.string nm, vd] (fun _ => True) (fun k => True ∧ some k ≠ vs.ownBlock) hs hx
    ⟨(nm, usd), ⟨hnm, h1, h5⟩, [.string nm], [vd], rfl, rfl, vd, rfl, Kd.R_apart' hD (Kd.R_typed h.rs) (by decide)⟩ (fun _ hk => hk) (fun _ _ => trivial) h.rs (Below.refl _ _) h.kp.1 (by omega) ?_
  intro v20 W20 hR20 hb20 hg20 _
  exact hc v20 W20 (h.growS hR20 hb20 hg20) hb20
/-- An enum is put behind the others. -/
theorem enum_append (hgd : o.guard = none) (s x : Operand) (ho : o.op = .call { callee := .builtin .append, args := #[s, x], argTypes := #[24, 24] }) (hs : a.eval s = ve) (hx : a.eval x = .slice (some ⟨W.heap.size, 0, none⟩) 1 1)
    (h : GS w0 w W g m S R a0 a1 vs ve vb us0 us1 lb) {vw : Value} {ws : List ByteArray} {nm : ByteArray} (hG : nm.size ≤ 20 ∧ ws.length ≤ 10 ∧ ∀ x ∈ ws, x.size ≤ 20) (hD : Kd.string.R 9 W w.heap.size (fun k => some k ≠ vb.ownBlock) vw ws) (hu : us1.length ≤ 10)
    (hc : ∀ v' W', GS w0 w W' g m S R a0 a1 vs v' vb us0 (us1 ++ [()]) lb → Below w.heap.size W W' → wpList Tryd.prog ops Q rest (a.put o.dst v') W') :
    wpList Tryd.prog ops Q (o :: rest) a (W.alloc (.cells #[.string nm, vw] 65)) := by
  refine Kd.R_append kEx (w0 := W) (W := W) w.heap.size hgd s x 24 65 (.agg #[(.string ⟨#[]⟩), (.slice none 0 0)]) 40 ho Tryd.underlying24 info65 rfl (by decide) (by omega) ve us1 () [.string nm, vw] (fun k => some k ≠ vb.ownBlock) (fun k => some k ≠ vb.ownBlock ∧ some k ≠ ve.ownBlock) hs hx
    ⟨(⟨nm, ws⟩ : SE), hG, k65_mkM _ _ _ (⟨nm, ws⟩ : SE) (Kd.R_apart' hD (Kd.R_typed h.re) (by decide))⟩ (fun _ hk => hk) (fun k hk e => Nat.not_le.2 (Kd.R_lt h.rb k e.symm) hk) h.re (Below.refl _ _) h.kp.1 (by omega) ?_
  intro v20 W20 hR20 hb20 hg20 _
  exact hc v20 W20 (h.growE hR20 hb20 hg20) hb20
/-- A text is put behind the others. -/
theorem text_append (hgd : o.guard = none) (s x : Operand) (ho : o.op = .call { callee := .builtin .append, args := #[s, x], argTypes := #[42, 42] }) (hs : a.eval s = vb) (hx : a.eval x = .slice (some ⟨W.heap.size, 0, none⟩) 1 1)
    (h : GS w0 w W g m S R a0 a1 vs ve vb us0 us1 lb) (t : ByteArray) (hu : lb.length ≤ 100)
    (hc : ∀ v' W', GS w0 w W' g m S R a0 a1 vs ve v' us0 us1 (lb ++ [t]) → wpList Tryd.prog ops Q rest (a.put o.dst v') W') :
    wpList Tryd.prog ops Q (o :: rest) a (W.alloc (.cells #[.string t] 9)) := by
  refine Kd.R_append Kd.string (w0 := W) (W := W) w.heap.size hgd s x 42 9 (.string ⟨#[]⟩) 16 ho Tryd.underlying42 info9 rfl (by decide) (by omega) vb lb t [.string t] (fun _ => True) (fun _ => False) hs hx rfl (fun _ hk => hk.elim) (fun _ _ => trivial) h.rb (Below.refl _ _) h.kp.1 (by omega) ?_
  intro v20 W20 hR20 hb20 hg20 hat
  exact hc v20 W20 (h.growB hR20 hb20 hg20 hat)
/-- Two texts are. -/
theorem texts_append (hgd : o.guard = none) (s x : Operand) (ho : o.op = .call { callee := .builtin .append, args := #[s, x], argTypes := #[42, 42] }) (hs : a.eval s = vb) {A : Option Addr} {c : Nat} (hx : a.eval x = .slice A 2 c)
    (h : GS w0 w W g m S R a0 a1 vs ve vb us0 us1 lb) (ts : List ByteArray) (hts : ts.length = 2) (hC : Kd.string.C W A 2 ts) (hu : lb.length ≤ 100)
    (hc : ∀ v' W', GS w0 w W' g m S R a0 a1 vs ve v' us0 us1 (lb ++ ts) → wpList Tryd.prog ops Q rest (a.put o.dst v') W') :
    wpList Tryd.prog ops Q (o :: rest) a W := by
  refine Kd.R_append_rows Kd.string (w0 := W) (W := W) w.heap.size hgd s x 42 9 (.string ⟨#[]⟩) 16 ho Tryd.underlying42 info9 rfl (by decide) (by omega) vb lb ts A 2 c (fun _ => True) (fun _ => False) hs hx h.rb hC (fun _ _ h => h) (fun _ hk => hk.elim) (fun _ _ => trivial) (Below.refl _ _) h.kp.1 (by omega) ?_
  intro v20 W20 hR20 hb20 hg20 hat
  exact hc v20 W20 (h.growB hR20 hb20 hg20 hat)
end
end Go.Proofs.YtjeipkfeihahdaaDoor
