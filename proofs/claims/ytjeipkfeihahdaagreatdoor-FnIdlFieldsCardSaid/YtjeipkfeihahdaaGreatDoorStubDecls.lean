/- The fields that a draw puts into a struct: at most five, small, in a row of the call's own. -/
import Derived.Test.YtjeipkfeihahdaaGreatDoorLibStep
import Derived.Test.YtjeipkfeihahdaaGreatDoorStubPick
import Derived.Test.YtjeipkfeihahdaaGreatDoorPx4
namespace Go.Proofs.YtjeipkfeihahdaaGreatDoor
set_option linter.unusedVariables false
set_option linter.unusedSimpArgs false
open Go.RowKit Go.Proofs.YtjeipkfeihahdaaGreatDoor.P Go.Proofs.YtjeipkfeihahdaaGreatDoor.Lem Go.Proofs.YtjeipkfeihahdaaGreatDoorW.PrintWords Go.Proofs.YtjeipkfeihahdaaGreatDoorW.PrintLast Go.Proofs.YtjeipkfeihahdaaGreatDoorW.PrintMore
/-- Where a draw of fields stands: the reader, what came in, and the row of its own. -/
structure DS (w0 w W : World) (g m : Nat) (v : Value) (us : List Unit) : Prop where
 rd : Rdr w0 W g m
 bw : Below w0.heap.size w0 W
 kp : KeepBut w W g none
 rw : kDx.R 46 W w.heap.size (fun _ => True) v us
 w00 : w0.heap.size ≤ w.heap.size
theorem DS.below {w0 w W W' : World} {g m : Nat} {v : Value} {us : List Unit} (h : DS w0 w W g m v us) (hb : Below W.heap.size W W') : DS w0 w W' g m v us :=
 ⟨h.rd.below hb, h.bw.trans (hb.mono h.bw.size), h.kp.trans (KeepBut.of_below hb g none) (.inl rfl), Kd.R_below h.rw hb, h.w00⟩
/-- A field of one's own beside the row. -/
structure DB (w0 w W : World) (g m : Nat) (v : Value) (us : List Unit) (b : Nat) (x : SD) : Prop where
 ds : DS w0 w W g m v us
 bx : W.heap[b]? = some (.cells #[.string x.f0, .int .i64 x.f1, .string x.f2.f0, .bool x.f2.f1, .bool x.f3, .int .i64 x.f4] 46 (0, 0))
 ne : kDx.R 46 W w.heap.size (fun k => k ≠ b) v us
 gb : g ≠ b
 wb : w.heap.size ≤ b
 wb0 : w0.heap.size ≤ b
theorem DS.box {w0 w W : World} {g m : Nat} {v : Value} {us : List Unit} (h : DS w0 w W g m v us) (x : SD) : DB w0 w (W.alloc (.cells #[.string x.f0, .int .i64 x.f1, .string x.f2.f0, .bool x.f2.f1, .bool x.f3, .int .i64 x.f4] 46)) g m v us W.heap.size x :=
 ⟨h.below (below_alloc (Below.refl _ _) _), heap_alloc_new W _, Kd.R_mono (Kd.R_alloc (Kd.R_elderB h.rw W.heap.size (Nat.le_refl _)) _) (fun k hk => hk.2), Nat.ne_of_lt h.rd.lt, h.kp.1, h.bw.size⟩
theorem DB.below {w0 w W W' : World} {g m b : Nat} {v : Value} {us : List Unit} {x : SD} (h : DB w0 w W g m v us b x) (hb : Below W.heap.size W W') : DB w0 w W' g m v us b x :=
 ⟨h.ds.below hb, (hb.block b (blk_lt h.bx)).trans h.bx, Kd.R_below h.ne hb, h.gb, h.wb, h.wb0⟩
theorem DS.call {w0 w W W' : World} {g m m' : Nat} {v : Value} {us : List Unit} (h : DS w0 w W g m v us) (hI : Rdr w0 W' g m') (hB : Below w0.heap.size w0 W') (hk : KeepBut W W' g none) : DS w0 w W' g m' v us :=
 ⟨hI, hB, h.kp.trans hk (.inl rfl), h.rd.row h.rw (by decide) hk, h.w00⟩
theorem DB.call {w0 w W W' : World} {g m m' b : Nat} {v : Value} {us : List Unit} {x : SD} (h : DB w0 w W g m v us b x) (hI : Rdr w0 W' g m') (hB : Below w0.heap.size w0 W') (hk : KeepBut W W' g none) : DB w0 w W' g m' v us b x :=
 ⟨h.ds.call hI hB hk, hk.blk h.bx (Ne.symm h.gb) (by simp), h.ds.rd.row h.ne (by decide) hk, h.gb, h.wb, h.wb0⟩
/-- The field's last cell is written. -/
theorem DB.put {w0 w W : World} {g m b : Nat} {v : Value} {us : List Unit} {x : SD} (h : DB w0 w W g m v us b x) (n : Int) : DB w0 w (W.setCell ⟨b, 5, none⟩ (.int .i64 n)) g m v us b ⟨x.f0, x.f1, x.f2, x.f3, n⟩ :=
 ⟨⟨h.ds.rd.far h.gb _, below_set h.ds.bw h.wb0, keep_far h.ds.kp h.wb _, Kd.R_mono (Kd.R_far h.ne (fun k hk => hk) _) (fun _ _ => trivial), h.ds.w00⟩, blk_put h.bx 5 _ rfl, Kd.R_far h.ne (fun k hk => hk) _, h.gb, h.wb, h.wb0⟩
theorem DB.grow {w0 w W W' : World} {g m b : Nat} {v v' : Value} {us us' : List Unit} {x : SD} (h : DB w0 w W g m v us b x) (hw : w0.heap.size ≤ w.heap.size) (hR : kDx.R 46 W' w.heap.size (fun k => k ≠ b) v' us') (hb : Below w.heap.size W W') (hg : W.grownBy W' v.ownBlock) : DS w0 w W' g m v' us' :=
 ⟨h.ds.rd.grown hg (h.ds.rd.ne h.ne (by decide)), below_weaken h.ds.bw hw hb, h.ds.kp.trans (KeepBut.of_grown hg g) (Kd.R_base2 h.ne), Kd.R_mono hR (fun _ _ => trivial), hw⟩
/-- The field is put behind the row. -/
theorem decl_append {w0 w W : World} {g m b : Nat} {A5 : Option Addr} {c5 : Nat} {us : List Unit} {x : SD} {ops : Array Oper} {rest : List Oper} {o : Oper} {a : Act} {Q : Exit → Act → World → Prop} (hgd : o.guard = none)
  (ho : o.op = .call { callee := .builtin .append, args := #[.tmp 64, .tmp 66], argTypes := #[40, 40] })
  (hs : a.eval (.tmp 64) = .slice A5 us.length c5) (hx : a.eval (.tmp 66) = .slice (some ⟨W.heap.size, 0, none⟩) 1 1) (hD : DB w0 w W g m (.slice A5 us.length c5) us b x) (hG : GoodD x) (hus : us.length ≤ 10) (hw : w0.heap.size ≤ w.heap.size)
  (h : ∀ v' W', DS w0 w W' g m v' (us ++ [()]) → wpList Tryz.prog ops Q rest (a.put o.dst v') W') :
  wpList Tryz.prog ops Q (o :: rest) a (W.alloc (.cells #[.string x.f0, .int .i64 x.f1, .string x.f2.f0, .bool x.f2.f1, .bool x.f3, .int .i64 x.f4] 46)) := by
 refine Kd.R_append kDx (w0 := W) (W := W) w.heap.size hgd (.tmp 64) (.tmp 66) 40 46 (.agg #[(.string ⟨#[]⟩), (.int .i64 0), (.string ⟨#[]⟩), (.bool false), (.bool false), (.int .i64 0)]) 64 ho Tryz.underlying40 info46 rfl (by decide) (by omega) (.slice A5 us.length c5) us () [.string x.f0, .int .i64 x.f1, .string x.f2.f0, .bool x.f2.f1, .bool x.f3, .int .i64 x.f4] (fun k => k ≠ b) (fun _ => False) hs hx (kDx_mk _ _ _ x hG) (fun _ hk => hk.elim) (fun k hk => Nat.ne_of_gt (Nat.lt_of_lt_of_le (blk_lt hD.bx) hk)) hD.ne (Below.refl _ _) hD.ds.kp.1 (by omega) ?_
 intro v20 W20 hR20 hb20 hg20 _
 exact h v20 W20 (hD.grow hw hR20 hb20 hg20)
abbrev cD (x : SD) : List Value := [.string x.f0, .int .i64 x.f1, .string x.f2.f0, .bool x.f2.f1, .bool x.f3, .int .i64 x.f4]
theorem units_set (us : List Unit) (i : Nat) : us.set i () = us := List.ext_getElem (by simp) (fun _ _ _ => rfl)
/-- A field of the row: what it is. -/
theorem DS.elem {w0 w W : World} {g m P n cap : Nat} {us : List Unit} (h : DS w0 w W g m (.slice (some ⟨P, 0, none⟩) n cap) us) (i : Nat) (hi : i < n) :
  ∃ x : SD, GoodD x ∧ ∀ j u, (cD x)[j]? = some u → W.cell? ⟨P, i * 6 + j, none⟩ = some u := by
 obtain ⟨c, hl, ⟨x, hx, hM⟩, hc, _⟩ := Kd.R_elem h.rw () (i : Int) (by omega) (by omega)
 have e := k46_openM hM
 subst e
 exact ⟨x, hx, fun j u hu => hc j u hu⟩
/-- A field of the row is written. -/
theorem DS.seg {w0 w W : World} {g m P n cap : Nat} {us : List Unit} (h : DS w0 w W g m (.slice (some ⟨P, 0, none⟩) n cap) us) (i o : Nat) (ho : o = i * 6) (hi : i < n) (x : SD) (hx : GoodD x) : DS w0 w (W.setCells P o (cD x)) g m (.slice (some ⟨P, 0, none⟩) n cap) us := by
 subst ho
 obtain ⟨c, hl, _, hc, _⟩ := Kd.R_elem h.rw () (i : Int) (by omega) (by omega)
 have hl6 : c.length = 6 := hl
 have h6 : c.drop 6 = [] := List.drop_eq_nil_of_le (by omega)
 obtain ⟨hR, hg⟩ := Kd.R_seg (okp := fun _ => False) h.rw (i : Int) (by omega) (by omega) hl hc (j := 0) (seg := cD x) (by show 0 + 6 ≤ 6; omega) (x' := ()) (by
  show kDx.M W w.heap.size (fun _ => False) () (c.take 0 ++ cD x ++ c.drop (0 + 6))
  rw [List.take_zero, Nat.zero_add, h6, List.nil_append, List.append_nil]
  exact kDx_mk _ _ _ x hx) (fun _ hk => hk.elim)
 rw [units_set] at hR
 have hP : w.heap.size ≤ P := Kd.R_base h.rw P (by simp [Value.ownBlock])
 have hR' : kDx.R 46 (W.setCells P (i * 6) (cD x)) w.heap.size (fun _ => True) (.slice (some ⟨P, 0, none⟩) n cap) us := hR
 have hg' : W.grownBy (W.setCells P (i * 6) (cD x)) (some P) := hg
 refine ⟨h.rd.grown hg' (h.rd.ne h.rw (by decide)), ?_, h.kp.trans (KeepBut.of_grown hg' g) (.inr ⟨P, rfl, hP⟩), hR', h.w00⟩
 refine h.bw.trans ⟨hg'.os, hg'.tape, hg'.output, hg'.size, fun k hk => hg'.block k (Nat.lt_of_lt_of_le hk h.bw.size) (fun e => ?_)⟩
 have e' : k = P := Option.some.inj e
 subst e'
 exact absurd (Nat.lt_of_lt_of_le hk (Nat.le_trans h.w00 hP)) (Nat.lt_irrefl _)
theorem own12 {W : World} {base P n cap : Nat} {ok : Nat → Prop} {us : List Unit} (h : kDx.R 46 W base ok (.slice (some ⟨P, 0, none⟩) n cap) us) (hn : 2 ≤ n) : ∃ cur, W.heap[P]? = some (.cells cur 46 (0, 0)) ∧ 12 ≤ cur.size := by
 obtain ⟨inner, ho⟩ := Kd.R_own h
 have hnu := (Kd.R_reads' h).1
 rcases ho.2 with ⟨hv, _⟩ | ⟨g', cap', cur, hv, a1, a2, a3, a4, a5, a6⟩
 ·cases hv
 injection hv with ha _ hc
 injection ha with ha
 injection ha with hg
 subst hg; subst hc
 refine ⟨cur, a2, ?_⟩
 have h1 : cur.size = cap * 6 := a5
 omega
theorem turnx (x y : SD) (w : World) :
  Calls Tryz.prog 61 #[.agg #[.string x.f0, .int .i64 x.f1, .string x.f2.f0, .bool x.f2.f1, .bool x.f3, .int .i64 x.f4], .agg #[.string y.f0, .int .i64 y.f1, .string y.f2.f0, .bool y.f2.f1, .bool y.f3, .int .i64 y.f4]] w fun e w' => e = .returned (.tuple #[.agg #[.string y.f0, .int .i64 y.f1, .string y.f2.f0, .bool y.f2.f1, .bool y.f3, .int .i64 y.f4], .agg #[.string x.f0, .int .i64 x.f1, .string x.f2.f0, .bool x.f2.f1, .bool x.f3, .int .i64 x.f4]]) ∧ Below w.heap.size w w' :=
 spec_l13Turn.calls _ _ _ _ _ _ _ _ _ _ _ _ _ _ _ _ _ _ _ _ _ _ _ _ w rfl
/-- A store of a whole element, in a region that draws its order. -/
theorem store_seg {ops : Array Oper} {Q : Exit → Act → World → Prop} {oi : Oper} {a : Act} {w : World} {K : Act → World → Prop} {g o : Nat} {t : TypeId} {p x : Operand} {u : Value} {e : TypeId} {cur : Array Value} {seg : List Value} (hN : oi.dst = none) (hop : oi.op = .store t p x) (hw : Region.wanted oi (yielded ops a.tmps) = true) (hp : a.eval p = .pointer (some ⟨g, o, none⟩)) (hx : a.eval x = u) (hu : u.cells.toList = seg) (ht : (Tryz.prog.info? t).map (·.size) = some seg.length) (h1 : ∀ q ∈ seg, q.oneCell' = true) (hh : w.heap[g]? = some (.cells cur e (0, 0))) (hfit : o + seg.length ≤ cur.size) (h : ∀ w1, w1 = w.setCells g o seg → K a w1) :
  if Region.wanted oi (yielded ops a.tmps) = true then Oper.wp Tryz.prog oi a w K Q else K (a.put none undef) w := by
 refine skip_ hw hN ?_ (h _ rfl)
 have hrun := run_store_run (P := Tryz.prog) t u seg hh hu ht hfit h1
 unfold execOp
 simp only [hop, hp, hx, Sem.run_bind, Sem.run_pure, Result.andThen_ok, hrun]
set_option maxHeartbeats 4000000 in
set_option maxRecDepth 100000 in
theorem declsx (w0 w : World) (g m : Nat) (A : Option Addr) (c : Nat) (l : List ByteArray) (hI : Rdr w0 w g m) (hB : Below w0.heap.size w0 w) (hm : m ≤ 800000) (hl : l ≠ []) (hs : l.length ≤ 1000) (hl20 : ∀ s ∈ l, s.size ≤ 20) (hA : Kd.C Kd.string w A l.length l) (hc : l.length ≤ c) (hf : ∀ ad, A = some ad → 0 < l.length → ad.block ≠ g) :
  Calls Tryz.prog 38 #[.pointer (some ⟨g, 0, none⟩), .slice A l.length c] w fun e w' => ∃ v us, e = .returned v ∧ 1 ≤ us.length ∧ us.length ≤ 5 ∧ kDx.R 46 w' w.heap.size (fun _ => True) v us ∧ Rdr w0 w' g (m + 60) ∧ Below w0.heap.size w0 w' ∧ KeepBut w w' g none := by
 have HL := Aside0.mk hl
 have HLS := Aside0.mk hs
 have HL20 := Aside0.mk hl20
 have HA := Aside0.mk hA
 have HC := Aside0.mk hc
 have HF := Aside0.mk hf
 have HI := Aside0.mk hI
 have HB := Aside0.mk hB
 have HW0 := Aside0.mk hB.size
 clear hl hs hl20 hA hc hf hI hB
 go_enter Tryz.func38, Tryz.ntmps38
 go_upto_region 2 with ((with_reducible refine gate_dst (N := 8) rfl ?_); refine Kd.R_lit kDx _ 46 ?hg (N := 8) ?hd (xs := ([] : List Unit)) (inner := []) (ok := fun _ => True) (okp := fun _ => True) ?hr ?hp (fun _ hk => hk) trivial (Below.refl _ _) (Nat.le_refl _) (by simp) ?_; (case hd => rfl); (case hg => rfl); (case hr => first | (go_simp; done) | (go_simp; rfl)); (case hp => exact (Reps.none _ _)); intro v1 W1 hR hb hg_ hnew_; have D1 := Aside0.mk (show DS w0 w W1 g m v1 [] from ⟨HI.out.below hb, HB.out.trans (hb.mono HB.out.size), KeepBut.of_below hb g none, hR, HW0.out⟩); clear hR hb hg_ hnew_)
 clear HI HB
 go_upto_region 3 with (go_at_call 24; refine (pickx w0 W1 g m 5 D1.out.rd D1.out.bw (by omega) (by omega)).mono ?_; rintro e W2 ⟨p, rfl, hp0, hp1, hI, hb, hk⟩; have D2 := Aside0.mk (D1.out.call hI hb hk); clear hI hb hk D1)
 obtain ⟨q, rfl⟩ : ∃ q : Nat, p = (q : Int) := ⟨p.toNat, by omega⟩
 go_loopg [5, 6] (q + 1) (fun gg v5 v6 wr => ∃ (x mm : Nat) (us : List Unit), v6 = .int .i64 x ∧ x ≤ gg ∧ us.length + x ≤ 5 ∧ 1 ≤ us.length + x ∧ mm + 8 * x ≤ m + 41 ∧ Aside0 (DS w0 w wr g mm v5 us))
 case atStart => exact ⟨q + 1, m + 1, [], by go_num, by simp, by simp; omega, by simp, by omega, D2⟩
 case round =>
  obtain ⟨x, mm, us, rfl, hgg, hx5, hx1, hmm, D3⟩ := hrel
  obtain ⟨W3, rfl⟩ : ∃ W3, W3 = wr := ⟨_, rfl⟩
  obtain ⟨A5, c5, rfl⟩ := Kd.R_slice D3.out.rw
  by_cases hx : 0 < x
  ·obtain ⟨x, rfl⟩ : ∃ y, x = y + 1 := ⟨x - 1, by omega⟩
   have hx' : (0 : Int) < ((x + 1 : Nat) : Int) := by omega
   go_upto_region 6 with (first | (go_at_call 60; refine (decx us.length (by omega) W3).mono ?_; rintro e W4 ⟨s1, rfl, hs1, hb⟩; have D4 := Aside0.mk (D3.out.below hb); clear hb) | (go_at_call 12; refine (ofx w0 W4 g mm A c l D4.out.rd D4.out.bw (by omega) HL.out HLS.out (Kd.C_keep (⟨#[]⟩ : ByteArray) HA.out D4.out.kp HF.out) HC.out HF.out).mono ?_; rintro e W5 ⟨s2, rfl, hs2, hI, hb, hk⟩; have D5 := Aside0.mk (D4.out.call hI hb hk); have HS2 := Aside0.mk (HL20.out s2 hs2); clear hI hb hk hs2) | (go_at_call 24; first | (refine (pickx w0 W5 g (mm + 1) 4 D5.out.rd D5.out.bw (by omega) (by omega)).mono ?_; rintro e W6 ⟨p6, rfl, _, _, hI, hb, hk⟩; have D6 := Aside0.mk (D5.out.call hI hb hk); clear hI hb hk) | (refine (pickx w0 W6 g (mm + 2) 4 D6.out.rd D6.out.bw (by omega) (by omega)).mono ?_; rintro e W7 ⟨p7, rfl, _, _, hI, hb, hk⟩; have D7 := Aside0.mk (D6.out.call hI hb hk); clear hI hb hk)))
   obtain ⟨li, hli⟩ : ∃ li, li = (p6 == 0) := ⟨_, rfl⟩
   obtain ⟨ch, hch⟩ : ∃ ch, ch = (p7 == 0) := ⟨_, rfl⟩
   obtain ⟨nm, hnm⟩ : ∃ nm, nm = (⟨#[102]⟩ : ByteArray) ++ s1 := ⟨_, rfl⟩
   have HNM := Aside0.mk (show nm.size ≤ 20 from by rw [hnm, ByteArray.size_append, hs1]; decide)
   rw [← hli, ← hch, ← hnm]
   have HU := Aside0.mk (show -1000000 ≤ (us.length : Int) ∧ (us.length : Int) ≤ 1000000 from ⟨by omega, by omega⟩)
   have HZ := Aside0.mk (show -1000000 ≤ (0 : Int) ∧ (0 : Int) ≤ 1000000 from by decide)
   have HU10 := Aside0.mk (show us.length ≤ 10 from by omega)
   clear hli hch hnm hs1
   obtain ⟨b, hb⟩ : ∃ b, b = W7.heap.size := ⟨_, rfl⟩
   obtain ⟨W8, hW8⟩ : ∃ W8, W8 = W7.alloc (.cells #[.string nm, .int .i64 us.length, .string s2, .bool li, .bool ch, .int .i64 0] 46) := ⟨_, rfl⟩
   have D8 := Aside0.mk (D7.out.box (⟨nm, us.length, ⟨s2, li⟩, ch, 0⟩ : SD))
   rw [← hb, ← hW8] at D8
   rw [← hb, ← hW8]
   clear hb hW8 D3 D4 D5 D6 D7
   have z0 : W8.cell? ⟨b, 0, none⟩ = some (.string nm) := (blk_cell D8.out.bx 0).trans rfl
   have z1 : W8.cell? ⟨b, 1, none⟩ = some (.int .i64 us.length) := (blk_cell D8.out.bx 1).trans rfl
   have z2 : W8.cell? ⟨b, 2, none⟩ = some (.string s2) := (blk_cell D8.out.bx 2).trans rfl
   have z3 : W8.cell? ⟨b, 3, none⟩ = some (.bool li) := (blk_cell D8.out.bx 3).trans rfl
   have z4 : W8.cell? ⟨b, 4, none⟩ = some (.bool ch) := (blk_cell D8.out.bx 4).trans rfl
   have z5 : W8.cell? ⟨b, 5, none⟩ = some (.int .i64 0) := (blk_cell D8.out.bx 5).trans rfl
   cases li with
   | true =>
    go_wp2_with (((with_reducible refine gate_builtin (b := .append) (xs := #[.tmp 64, .tmp 66]) rfl ?_); at_builtin; first | (refine decl_append rfl rfl rfl (by first | (go_simp; done) | (go_simp; rfl)) (x := (⟨nm, us.length, ⟨s2, false⟩, ch, n5⟩ : SD)) (D11.out.put n5) ⟨HNM.out, HS2.out, HU.out, HN5.out⟩ HU10.out HW0.out ?_; intro v20 W20 hD; have D20 := Aside0.mk hD; clear hD) | (refine decl_append rfl rfl rfl (by first | (go_simp; done) | (go_simp; rfl)) (x := (⟨nm, us.length, ⟨s2, false⟩, ch, 0⟩ : SD)) D9.out ⟨HNM.out, HS2.out, HU.out, HZ.out⟩ HU10.out HW0.out ?_; intro v20 W20 hD; have D20 := Aside0.mk hD; clear hD) | (refine decl_append rfl rfl rfl (by first | (go_simp; done) | (go_simp; rfl)) (x := (⟨nm, us.length, ⟨s2, true⟩, ch, 0⟩ : SD)) D8.out ⟨HNM.out, HS2.out, HU.out, HZ.out⟩ HU10.out HW0.out ?_; intro v20 W20 hD; have D20 := Aside0.mk hD; clear hD) | (refine decl_append rfl rfl rfl (by first | (go_simp; done) | (go_simp; rfl)) (x := (⟨nm, us.length, ⟨s2, false⟩, ch, 0⟩ : SD)) D8.out ⟨HNM.out, HS2.out, HU.out, HZ.out⟩ HU10.out HW0.out ?_; intro v20 W20 hD; have D20 := Aside0.mk hD; clear hD)))
    go_roundg x
    case measure => omega
    case rel => exact ⟨x, mm + 3, us ++ [()], by go_num, by omega, by simp only [List.length_append, List.length_singleton]; omega, by simp only [List.length_append, List.length_singleton]; omega, by omega, D20⟩
   | false =>
    cases he1 : s2.toList == ([85, 56] : List UInt8)
    case true =>
     go_wp2_with (first | (go_at_call 24; refine (pickx w0 W8 g (mm + 3) 3 D8.out.ds.rd D8.out.ds.bw (by omega) (by omega)).mono ?_; rintro e W9 ⟨p8, rfl, _, _, hI, hb, hk⟩; have D9 := Aside0.mk (D8.out.call hI hb hk); clear hI hb hk; have t0 := (blk_cell D9.out.bx 0).trans rfl; have t1 := (blk_cell D9.out.bx 1).trans rfl; have t2 := (blk_cell D9.out.bx 2).trans rfl; have t3 := (blk_cell D9.out.bx 3).trans rfl; have t4 := (blk_cell D9.out.bx 4).trans rfl; have t5 := (blk_cell D9.out.bx 5).trans rfl; by_cases hp8 : p8 = 0) | ((with_reducible refine gate_dst (N := 61) rfl ?_); refine Kd.R_lit (Kd.int .i64) _ 3 ?hg (N := 61) ?hd (xs := ([1, 5, 7] : List Int)) (inner := [.int .i64 1, .int .i64 5, .int .i64 7]) (ok := fun _ => True) (okp := fun _ => True) ?hr ?hp (fun _ hk => hk) trivial (Below.refl _ _) (Nat.le_refl _) (by simp) ?_; (case hd => rfl); (case hg => rfl); (case hr => first | (go_simp; done) | (go_simp; rfl)); (case hp => exact (Reps.one (show Kd.M (Kd.int .i64) _ _ _ 1 [.int .i64 1] from rfl) (Reps.one (show Kd.M (Kd.int .i64) _ _ _ 5 [.int .i64 5] from rfl) (Reps.one (show Kd.M (Kd.int .i64) _ _ _ 7 [.int .i64 7] from rfl) (Reps.none _ _))))); intro v10 W10 hR10 hb10 hg_ hnew_; obtain ⟨A10, c10, rfl⟩ := Kd.R_slice hR10; have D10 := Aside0.mk (D9.out.below hb10); have HR10 := Aside0.mk hR10; clear hR10 hb10 hg_ hnew_) | (go_at_call 25; refine (onex w0 W10 g (mm + 4) A10 c10 [1, 5, 7] D10.out.ds.rd D10.out.ds.bw (by omega) (by simp) (by simp) (Kd.R_reads' HR10.out).2.2 (Kd.R_reads' HR10.out).2.1 (far_slice (D10.out.ds.rd.ne HR10.out (by decide)))).mono ?_; rintro e W11 ⟨n5, rfl, hn5, hI, hb, hk⟩; have D11 := Aside0.mk (D10.out.call hI hb hk); have HN5 := Aside0.mk (show -1000000 ≤ n5 ∧ n5 ≤ 1000000 from by simp only [List.mem_cons, List.not_mem_nil, or_false] at hn5; omega); clear hI hb hk hn5; have z0 := (blk_cell D11.out.bx 0).trans rfl; have z1 := (blk_cell D11.out.bx 1).trans rfl; have z2 := (blk_cell D11.out.bx 2).trans rfl; have z3 := (blk_cell D11.out.bx 3).trans rfl; have z4 := (blk_cell D11.out.bx 4).trans rfl; have z5 := (blk_cell D11.out.bx 5).trans rfl; have zf := blk_frozen D11.out.bx 5) | ((with_reducible refine gate_builtin (b := .append) (xs := #[.tmp 64, .tmp 66]) rfl ?_); at_builtin; first | (refine decl_append rfl rfl rfl (by first | (go_simp; done) | (go_simp; rfl)) (x := (⟨nm, us.length, ⟨s2, false⟩, ch, n5⟩ : SD)) (D11.out.put n5) ⟨HNM.out, HS2.out, HU.out, HN5.out⟩ HU10.out HW0.out ?_; intro v20 W20 hD; have D20 := Aside0.mk hD; clear hD) | (refine decl_append rfl rfl rfl (by first | (go_simp; done) | (go_simp; rfl)) (x := (⟨nm, us.length, ⟨s2, false⟩, ch, 0⟩ : SD)) D9.out ⟨HNM.out, HS2.out, HU.out, HZ.out⟩ HU10.out HW0.out ?_; intro v20 W20 hD; have D20 := Aside0.mk hD; clear hD) | (refine decl_append rfl rfl rfl (by first | (go_simp; done) | (go_simp; rfl)) (x := (⟨nm, us.length, ⟨s2, true⟩, ch, 0⟩ : SD)) D8.out ⟨HNM.out, HS2.out, HU.out, HZ.out⟩ HU10.out HW0.out ?_; intro v20 W20 hD; have D20 := Aside0.mk hD; clear hD) | (refine decl_append rfl rfl rfl (by first | (go_simp; done) | (go_simp; rfl)) (x := (⟨nm, us.length, ⟨s2, false⟩, ch, 0⟩ : SD)) D8.out ⟨HNM.out, HS2.out, HU.out, HZ.out⟩ HU10.out HW0.out ?_; intro v20 W20 hD; have D20 := Aside0.mk hD; clear hD)))
     ·go_roundg x
      case measure => omega
      case rel => exact ⟨x, mm + 5, us ++ [()], by go_num, by omega, by simp only [List.length_append, List.length_singleton]; omega, by simp only [List.length_append, List.length_singleton]; omega, by omega, D20⟩
     ·go_wp2_with (((with_reducible refine gate_builtin (b := .append) (xs := #[.tmp 64, .tmp 66]) rfl ?_); at_builtin; first | (refine decl_append rfl rfl rfl (by first | (go_simp; done) | (go_simp; rfl)) (x := (⟨nm, us.length, ⟨s2, false⟩, ch, n5⟩ : SD)) (D11.out.put n5) ⟨HNM.out, HS2.out, HU.out, HN5.out⟩ HU10.out HW0.out ?_; intro v20 W20 hD; have D20 := Aside0.mk hD; clear hD) | (refine decl_append rfl rfl rfl (by first | (go_simp; done) | (go_simp; rfl)) (x := (⟨nm, us.length, ⟨s2, false⟩, ch, 0⟩ : SD)) D9.out ⟨HNM.out, HS2.out, HU.out, HZ.out⟩ HU10.out HW0.out ?_; intro v20 W20 hD; have D20 := Aside0.mk hD; clear hD) | (refine decl_append rfl rfl rfl (by first | (go_simp; done) | (go_simp; rfl)) (x := (⟨nm, us.length, ⟨s2, true⟩, ch, 0⟩ : SD)) D8.out ⟨HNM.out, HS2.out, HU.out, HZ.out⟩ HU10.out HW0.out ?_; intro v20 W20 hD; have D20 := Aside0.mk hD; clear hD) | (refine decl_append rfl rfl rfl (by first | (go_simp; done) | (go_simp; rfl)) (x := (⟨nm, us.length, ⟨s2, false⟩, ch, 0⟩ : SD)) D8.out ⟨HNM.out, HS2.out, HU.out, HZ.out⟩ HU10.out HW0.out ?_; intro v20 W20 hD; have D20 := Aside0.mk hD; clear hD)))
      go_roundg x
      case measure => omega
      case rel => exact ⟨x, mm + 4, us ++ [()], by go_num, by omega, by simp only [List.length_append, List.length_singleton]; omega, by simp only [List.length_append, List.length_singleton]; omega, by omega, D20⟩
    case false =>
     cases he2 : s2.toList == ([85, 49, 54] : List UInt8)
     case true =>
      go_wp2_with (first | (go_at_call 24; refine (pickx w0 W8 g (mm + 3) 3 D8.out.ds.rd D8.out.ds.bw (by omega) (by omega)).mono ?_; rintro e W9 ⟨p8, rfl, _, _, hI, hb, hk⟩; have D9 := Aside0.mk (D8.out.call hI hb hk); clear hI hb hk; have t0 := (blk_cell D9.out.bx 0).trans rfl; have t1 := (blk_cell D9.out.bx 1).trans rfl; have t2 := (blk_cell D9.out.bx 2).trans rfl; have t3 := (blk_cell D9.out.bx 3).trans rfl; have t4 := (blk_cell D9.out.bx 4).trans rfl; have t5 := (blk_cell D9.out.bx 5).trans rfl; by_cases hp8 : p8 = 0) | ((with_reducible refine gate_dst (N := 61) rfl ?_); refine Kd.R_lit (Kd.int .i64) _ 3 ?hg (N := 61) ?hd (xs := ([1, 5, 7] : List Int)) (inner := [.int .i64 1, .int .i64 5, .int .i64 7]) (ok := fun _ => True) (okp := fun _ => True) ?hr ?hp (fun _ hk => hk) trivial (Below.refl _ _) (Nat.le_refl _) (by simp) ?_; (case hd => rfl); (case hg => rfl); (case hr => first | (go_simp; done) | (go_simp; rfl)); (case hp => exact (Reps.one (show Kd.M (Kd.int .i64) _ _ _ 1 [.int .i64 1] from rfl) (Reps.one (show Kd.M (Kd.int .i64) _ _ _ 5 [.int .i64 5] from rfl) (Reps.one (show Kd.M (Kd.int .i64) _ _ _ 7 [.int .i64 7] from rfl) (Reps.none _ _))))); intro v10 W10 hR10 hb10 hg_ hnew_; obtain ⟨A10, c10, rfl⟩ := Kd.R_slice hR10; have D10 := Aside0.mk (D9.out.below hb10); have HR10 := Aside0.mk hR10; clear hR10 hb10 hg_ hnew_) | (go_at_call 25; refine (onex w0 W10 g (mm + 4) A10 c10 [1, 5, 7] D10.out.ds.rd D10.out.ds.bw (by omega) (by simp) (by simp) (Kd.R_reads' HR10.out).2.2 (Kd.R_reads' HR10.out).2.1 (far_slice (D10.out.ds.rd.ne HR10.out (by decide)))).mono ?_; rintro e W11 ⟨n5, rfl, hn5, hI, hb, hk⟩; have D11 := Aside0.mk (D10.out.call hI hb hk); have HN5 := Aside0.mk (show -1000000 ≤ n5 ∧ n5 ≤ 1000000 from by simp only [List.mem_cons, List.not_mem_nil, or_false] at hn5; omega); clear hI hb hk hn5; have z0 := (blk_cell D11.out.bx 0).trans rfl; have z1 := (blk_cell D11.out.bx 1).trans rfl; have z2 := (blk_cell D11.out.bx 2).trans rfl; have z3 := (blk_cell D11.out.bx 3).trans rfl; have z4 := (blk_cell D11.out.bx 4).trans rfl; have z5 := (blk_cell D11.out.bx 5).trans rfl; have zf := blk_frozen D11.out.bx 5) | ((with_reducible refine gate_builtin (b := .append) (xs := #[.tmp 64, .tmp 66]) rfl ?_); at_builtin; first | (refine decl_append rfl rfl rfl (by first | (go_simp; done) | (go_simp; rfl)) (x := (⟨nm, us.length, ⟨s2, false⟩, ch, n5⟩ : SD)) (D11.out.put n5) ⟨HNM.out, HS2.out, HU.out, HN5.out⟩ HU10.out HW0.out ?_; intro v20 W20 hD; have D20 := Aside0.mk hD; clear hD) | (refine decl_append rfl rfl rfl (by first | (go_simp; done) | (go_simp; rfl)) (x := (⟨nm, us.length, ⟨s2, false⟩, ch, 0⟩ : SD)) D9.out ⟨HNM.out, HS2.out, HU.out, HZ.out⟩ HU10.out HW0.out ?_; intro v20 W20 hD; have D20 := Aside0.mk hD; clear hD) | (refine decl_append rfl rfl rfl (by first | (go_simp; done) | (go_simp; rfl)) (x := (⟨nm, us.length, ⟨s2, true⟩, ch, 0⟩ : SD)) D8.out ⟨HNM.out, HS2.out, HU.out, HZ.out⟩ HU10.out HW0.out ?_; intro v20 W20 hD; have D20 := Aside0.mk hD; clear hD) | (refine decl_append rfl rfl rfl (by first | (go_simp; done) | (go_simp; rfl)) (x := (⟨nm, us.length, ⟨s2, false⟩, ch, 0⟩ : SD)) D8.out ⟨HNM.out, HS2.out, HU.out, HZ.out⟩ HU10.out HW0.out ?_; intro v20 W20 hD; have D20 := Aside0.mk hD; clear hD)))
      ·go_roundg x
       case measure => omega
       case rel => exact ⟨x, mm + 5, us ++ [()], by go_num, by omega, by simp only [List.length_append, List.length_singleton]; omega, by simp only [List.length_append, List.length_singleton]; omega, by omega, D20⟩
      ·go_wp2_with (((with_reducible refine gate_builtin (b := .append) (xs := #[.tmp 64, .tmp 66]) rfl ?_); at_builtin; first | (refine decl_append rfl rfl rfl (by first | (go_simp; done) | (go_simp; rfl)) (x := (⟨nm, us.length, ⟨s2, false⟩, ch, n5⟩ : SD)) (D11.out.put n5) ⟨HNM.out, HS2.out, HU.out, HN5.out⟩ HU10.out HW0.out ?_; intro v20 W20 hD; have D20 := Aside0.mk hD; clear hD) | (refine decl_append rfl rfl rfl (by first | (go_simp; done) | (go_simp; rfl)) (x := (⟨nm, us.length, ⟨s2, false⟩, ch, 0⟩ : SD)) D9.out ⟨HNM.out, HS2.out, HU.out, HZ.out⟩ HU10.out HW0.out ?_; intro v20 W20 hD; have D20 := Aside0.mk hD; clear hD) | (refine decl_append rfl rfl rfl (by first | (go_simp; done) | (go_simp; rfl)) (x := (⟨nm, us.length, ⟨s2, true⟩, ch, 0⟩ : SD)) D8.out ⟨HNM.out, HS2.out, HU.out, HZ.out⟩ HU10.out HW0.out ?_; intro v20 W20 hD; have D20 := Aside0.mk hD; clear hD) | (refine decl_append rfl rfl rfl (by first | (go_simp; done) | (go_simp; rfl)) (x := (⟨nm, us.length, ⟨s2, false⟩, ch, 0⟩ : SD)) D8.out ⟨HNM.out, HS2.out, HU.out, HZ.out⟩ HU10.out HW0.out ?_; intro v20 W20 hD; have D20 := Aside0.mk hD; clear hD)))
       go_roundg x
       case measure => omega
       case rel => exact ⟨x, mm + 4, us ++ [()], by go_num, by omega, by simp only [List.length_append, List.length_singleton]; omega, by simp only [List.length_append, List.length_singleton]; omega, by omega, D20⟩
     case false =>
      cases he3 : s2.toList == ([73, 54, 52] : List UInt8)
      case true =>
       go_wp2_with (first | (go_at_call 24; refine (pickx w0 W8 g (mm + 3) 3 D8.out.ds.rd D8.out.ds.bw (by omega) (by omega)).mono ?_; rintro e W9 ⟨p8, rfl, _, _, hI, hb, hk⟩; have D9 := Aside0.mk (D8.out.call hI hb hk); clear hI hb hk; have t0 := (blk_cell D9.out.bx 0).trans rfl; have t1 := (blk_cell D9.out.bx 1).trans rfl; have t2 := (blk_cell D9.out.bx 2).trans rfl; have t3 := (blk_cell D9.out.bx 3).trans rfl; have t4 := (blk_cell D9.out.bx 4).trans rfl; have t5 := (blk_cell D9.out.bx 5).trans rfl; by_cases hp8 : p8 = 0) | ((with_reducible refine gate_dst (N := 61) rfl ?_); refine Kd.R_lit (Kd.int .i64) _ 3 ?hg (N := 61) ?hd (xs := ([1, 5, 7] : List Int)) (inner := [.int .i64 1, .int .i64 5, .int .i64 7]) (ok := fun _ => True) (okp := fun _ => True) ?hr ?hp (fun _ hk => hk) trivial (Below.refl _ _) (Nat.le_refl _) (by simp) ?_; (case hd => rfl); (case hg => rfl); (case hr => first | (go_simp; done) | (go_simp; rfl)); (case hp => exact (Reps.one (show Kd.M (Kd.int .i64) _ _ _ 1 [.int .i64 1] from rfl) (Reps.one (show Kd.M (Kd.int .i64) _ _ _ 5 [.int .i64 5] from rfl) (Reps.one (show Kd.M (Kd.int .i64) _ _ _ 7 [.int .i64 7] from rfl) (Reps.none _ _))))); intro v10 W10 hR10 hb10 hg_ hnew_; obtain ⟨A10, c10, rfl⟩ := Kd.R_slice hR10; have D10 := Aside0.mk (D9.out.below hb10); have HR10 := Aside0.mk hR10; clear hR10 hb10 hg_ hnew_) | (go_at_call 25; refine (onex w0 W10 g (mm + 4) A10 c10 [1, 5, 7] D10.out.ds.rd D10.out.ds.bw (by omega) (by simp) (by simp) (Kd.R_reads' HR10.out).2.2 (Kd.R_reads' HR10.out).2.1 (far_slice (D10.out.ds.rd.ne HR10.out (by decide)))).mono ?_; rintro e W11 ⟨n5, rfl, hn5, hI, hb, hk⟩; have D11 := Aside0.mk (D10.out.call hI hb hk); have HN5 := Aside0.mk (show -1000000 ≤ n5 ∧ n5 ≤ 1000000 from by simp only [List.mem_cons, List.not_mem_nil, or_false] at hn5; omega); clear hI hb hk hn5; have z0 := (blk_cell D11.out.bx 0).trans rfl; have z1 := (blk_cell D11.out.bx 1).trans rfl; have z2 := (blk_cell D11.out.bx 2).trans rfl; have z3 := (blk_cell D11.out.bx 3).trans rfl; have z4 := (blk_cell D11.out.bx 4).trans rfl; have z5 := (blk_cell D11.out.bx 5).trans rfl; have zf := blk_frozen D11.out.bx 5) | ((with_reducible refine gate_builtin (b := .append) (xs := #[.tmp 64, .tmp 66]) rfl ?_); at_builtin; first | (refine decl_append rfl rfl rfl (by first | (go_simp; done) | (go_simp; rfl)) (x := (⟨nm, us.length, ⟨s2, false⟩, ch, n5⟩ : SD)) (D11.out.put n5) ⟨HNM.out, HS2.out, HU.out, HN5.out⟩ HU10.out HW0.out ?_; intro v20 W20 hD; have D20 := Aside0.mk hD; clear hD) | (refine decl_append rfl rfl rfl (by first | (go_simp; done) | (go_simp; rfl)) (x := (⟨nm, us.length, ⟨s2, false⟩, ch, 0⟩ : SD)) D9.out ⟨HNM.out, HS2.out, HU.out, HZ.out⟩ HU10.out HW0.out ?_; intro v20 W20 hD; have D20 := Aside0.mk hD; clear hD) | (refine decl_append rfl rfl rfl (by first | (go_simp; done) | (go_simp; rfl)) (x := (⟨nm, us.length, ⟨s2, true⟩, ch, 0⟩ : SD)) D8.out ⟨HNM.out, HS2.out, HU.out, HZ.out⟩ HU10.out HW0.out ?_; intro v20 W20 hD; have D20 := Aside0.mk hD; clear hD) | (refine decl_append rfl rfl rfl (by first | (go_simp; done) | (go_simp; rfl)) (x := (⟨nm, us.length, ⟨s2, false⟩, ch, 0⟩ : SD)) D8.out ⟨HNM.out, HS2.out, HU.out, HZ.out⟩ HU10.out HW0.out ?_; intro v20 W20 hD; have D20 := Aside0.mk hD; clear hD)))
       ·go_roundg x
        case measure => omega
        case rel => exact ⟨x, mm + 5, us ++ [()], by go_num, by omega, by simp only [List.length_append, List.length_singleton]; omega, by simp only [List.length_append, List.length_singleton]; omega, by omega, D20⟩
       ·go_wp2_with (((with_reducible refine gate_builtin (b := .append) (xs := #[.tmp 64, .tmp 66]) rfl ?_); at_builtin; first | (refine decl_append rfl rfl rfl (by first | (go_simp; done) | (go_simp; rfl)) (x := (⟨nm, us.length, ⟨s2, false⟩, ch, n5⟩ : SD)) (D11.out.put n5) ⟨HNM.out, HS2.out, HU.out, HN5.out⟩ HU10.out HW0.out ?_; intro v20 W20 hD; have D20 := Aside0.mk hD; clear hD) | (refine decl_append rfl rfl rfl (by first | (go_simp; done) | (go_simp; rfl)) (x := (⟨nm, us.length, ⟨s2, false⟩, ch, 0⟩ : SD)) D9.out ⟨HNM.out, HS2.out, HU.out, HZ.out⟩ HU10.out HW0.out ?_; intro v20 W20 hD; have D20 := Aside0.mk hD; clear hD) | (refine decl_append rfl rfl rfl (by first | (go_simp; done) | (go_simp; rfl)) (x := (⟨nm, us.length, ⟨s2, true⟩, ch, 0⟩ : SD)) D8.out ⟨HNM.out, HS2.out, HU.out, HZ.out⟩ HU10.out HW0.out ?_; intro v20 W20 hD; have D20 := Aside0.mk hD; clear hD) | (refine decl_append rfl rfl rfl (by first | (go_simp; done) | (go_simp; rfl)) (x := (⟨nm, us.length, ⟨s2, false⟩, ch, 0⟩ : SD)) D8.out ⟨HNM.out, HS2.out, HU.out, HZ.out⟩ HU10.out HW0.out ?_; intro v20 W20 hD; have D20 := Aside0.mk hD; clear hD)))
        go_roundg x
        case measure => omega
        case rel => exact ⟨x, mm + 4, us ++ [()], by go_num, by omega, by simp only [List.length_append, List.length_singleton]; omega, by simp only [List.length_append, List.length_singleton]; omega, by omega, D20⟩
      case false =>
       go_wp2_with (((with_reducible refine gate_builtin (b := .append) (xs := #[.tmp 64, .tmp 66]) rfl ?_); at_builtin; first | (refine decl_append rfl rfl rfl (by first | (go_simp; done) | (go_simp; rfl)) (x := (⟨nm, us.length, ⟨s2, false⟩, ch, n5⟩ : SD)) (D11.out.put n5) ⟨HNM.out, HS2.out, HU.out, HN5.out⟩ HU10.out HW0.out ?_; intro v20 W20 hD; have D20 := Aside0.mk hD; clear hD) | (refine decl_append rfl rfl rfl (by first | (go_simp; done) | (go_simp; rfl)) (x := (⟨nm, us.length, ⟨s2, false⟩, ch, 0⟩ : SD)) D9.out ⟨HNM.out, HS2.out, HU.out, HZ.out⟩ HU10.out HW0.out ?_; intro v20 W20 hD; have D20 := Aside0.mk hD; clear hD) | (refine decl_append rfl rfl rfl (by first | (go_simp; done) | (go_simp; rfl)) (x := (⟨nm, us.length, ⟨s2, true⟩, ch, 0⟩ : SD)) D8.out ⟨HNM.out, HS2.out, HU.out, HZ.out⟩ HU10.out HW0.out ?_; intro v20 W20 hD; have D20 := Aside0.mk hD; clear hD) | (refine decl_append rfl rfl rfl (by first | (go_simp; done) | (go_simp; rfl)) (x := (⟨nm, us.length, ⟨s2, false⟩, ch, 0⟩ : SD)) D8.out ⟨HNM.out, HS2.out, HU.out, HZ.out⟩ HU10.out HW0.out ?_; intro v20 W20 hD; have D20 := Aside0.mk hD; clear hD)))
       go_roundg x
       case measure => omega
       case rel => exact ⟨x, mm + 3, us ++ [()], by go_num, by omega, by simp only [List.length_append, List.length_singleton]; omega, by simp only [List.length_append, List.length_singleton]; omega, by omega, D20⟩
  ·obtain rfl : x = 0 := by omega
   have hmm' : mm ≤ m + 41 := by omega
   clear hgg hx hmm
   have hus5 : us.length ≤ 5 := by omega
   have hus1 : 1 ≤ us.length := by omega
   clear hx5 hx1 D2
   by_cases hn2 : 2 ≤ us.length
   case neg =>
    have e1 : decide ((1 : Int) < (us.length : Int)) = false := decide_eq_false (by omega)
    go_wp2_with fail
    go_ret
    exact ⟨_, us, rfl, hus1, hus5, D3.out.rw, D3.out.rd.le (by omega), D3.out.bw, D3.out.kp⟩
   have e1 : decide ((1 : Int) < (us.length : Int)) = true := decide_eq_true (by omega)
   go_wp2_with (go_at_call 24; refine (pickx w0 W3 g mm 3 D3.out.rd D3.out.bw (by omega) (by omega)).mono ?_; rintro e W9 ⟨p9, rfl, _, _, hI, hb, hk⟩; have D9 := Aside0.mk (D3.out.call hI hb hk); clear hI hb hk; by_cases hp9 : p9 = 0)
   ·subst hp9
    obtain ⟨ad9, c9, e9⟩ := Kd.R_slice1 D9.out.rw (by omega)
    obtain ⟨P, hP⟩ : ∃ P, ad9 = ⟨P, 0, none⟩ := by
     obtain ⟨inner, ho⟩ := Kd.R_own D9.out.rw
     rw [e9] at ho
     rcases ho.2 with ⟨hv, _⟩ | ⟨g', cap', cur, hv, _⟩
     ·cases hv
     ·injection hv with ha _ _
      injection ha with ha
      exact ⟨g', ha⟩
    subst hP
    injection e9 with ha9 _ hc9
    subst ha9; subst hc9
    have D10 := Aside0.mk (D9.out.below (below_drew1 (Below.refl _ _)))
    obtain ⟨x0, hG0, hx0⟩ := D10.out.elem 0 (by omega)
    obtain ⟨x1, hG1, hx1⟩ := D10.out.elem 1 (by omega)
    have HG0 := Aside0.mk hG0
    have HG1 := Aside0.mk hG1
    have h10 := And.intro (hx0 0 _ rfl) (And.intro (hx0 1 _ rfl) (And.intro (hx0 2 _ rfl) (And.intro (hx0 3 _ rfl) (And.intro (hx0 4 _ rfl) (And.intro (hx0 5 _ rfl) (And.intro (hx1 0 _ rfl) (And.intro (hx1 1 _ rfl) (And.intro (hx1 2 _ rfl) (And.intro (hx1 3 _ rfl) (And.intro (hx1 4 _ rfl) (hx1 5 _ rfl)))))))))))
    clear hG0 hG1 hx0 hx1
    have q0 : (0 < us.length) = True := eq_true (by omega)
    have q1 : (1 < us.length) = True := eq_true (by omega)
    have q2 : ((0 : Int) < (us.length : Int)) = True := eq_true (by omega)
    have q3 : ((1 : Int) < (us.length : Int)) = True := eq_true (by omega)
    go_upto_region 10 with fail
    refine start_ (n := 16) (S := fun w' => w'.cell? ⟨P, 0, none⟩ = some (.string x0.f0) ∧ w'.cell? ⟨P, 1, none⟩ = some (.int .i64 x0.f1) ∧ w'.cell? ⟨P, 2, none⟩ = some (.string x0.f2.f0) ∧ w'.cell? ⟨P, 3, none⟩ = some (.bool x0.f2.f1) ∧ w'.cell? ⟨P, 4, none⟩ = some (.bool x0.f3) ∧ w'.cell? ⟨P, 5, none⟩ = some (.int .i64 x0.f4) ∧ w'.cell? ⟨P, 6, none⟩ = some (.string x1.f0) ∧ w'.cell? ⟨P, 7, none⟩ = some (.int .i64 x1.f1) ∧ w'.cell? ⟨P, 8, none⟩ = some (.string x1.f2.f0) ∧ w'.cell? ⟨P, 9, none⟩ = some (.bool x1.f2.f1) ∧ w'.cell? ⟨P, 10, none⟩ = some (.bool x1.f3) ∧ w'.cell? ⟨P, 11, none⟩ = some (.int .i64 x1.f4)) (ds := [13, 15]) #[false, false, false, false, false, false, false, false, false, false, false, false, false, false, false, false] (by kernel_rfl) rfl rfl ⟨h10.1, h10.2.1, h10.2.2.1, h10.2.2.2.1, h10.2.2.2.2.1, h10.2.2.2.2.2.1, h10.2.2.2.2.2.2.1, h10.2.2.2.2.2.2.2.1, h10.2.2.2.2.2.2.2.2.1, h10.2.2.2.2.2.2.2.2.2.1, h10.2.2.2.2.2.2.2.2.2.2.1, h10.2.2.2.2.2.2.2.2.2.2.2⟩ (fun hHeld => ?_)
    refine pu_ 0 (some 77) rfl ?_
    refine pu_ 1 (some 78) rfl ?_
    refine pu_ 2 (some 79) rfl ?_
    refine pu_ 3 (some 80) rfl ?_
    refine pu_ 5 (some 82) rfl ?_
    refine pu_ 6 (some 83) rfl ?_
    refine tk_ 4 (some 81) rfl hHeld ?_
    refine tk_ 7 (some 84) rfl hHeld ?_
    refine on_ 8 (some 85) rfl (fun K hK => ?_)
    refine goes_ Tryz.func61 (by kernel_rfl) rfl #[(.agg #[(.string x0.f0), (.int .i64 x0.f1), (.string x0.f2.f0), (.bool x0.f2.f1), (.bool x0.f3), (.int .i64 x0.f4)]), (.agg #[(.string x1.f0), (.int .i64 x1.f1), (.string x1.f2.f0), (.bool x1.f2.f1), (.bool x1.f3), (.int .i64 x1.f4)])] (by rfl) rfl rfl (by simp only [List.map_toArray, List.map_cons, List.map_nil]; rfl) ?_
    with_reducible refine (turnx x0 x1 _).mono ?_
    rintro e W11 ⟨rfl, hb11⟩
    refine ⟨_, rfl, ?_⟩
    refine hK.out _ _ ⟨pw_cell_below hb11 hHeld.1, pw_cell_below hb11 hHeld.2.1, pw_cell_below hb11 hHeld.2.2.1, pw_cell_below hb11 hHeld.2.2.2.1, pw_cell_below hb11 hHeld.2.2.2.2.1, pw_cell_below hb11 hHeld.2.2.2.2.2.1, pw_cell_below hb11 hHeld.2.2.2.2.2.2.1, pw_cell_below hb11 hHeld.2.2.2.2.2.2.2.1, pw_cell_below hb11 hHeld.2.2.2.2.2.2.2.2.1, pw_cell_below hb11 hHeld.2.2.2.2.2.2.2.2.2.1, pw_cell_below hb11 hHeld.2.2.2.2.2.2.2.2.2.2.1, pw_cell_below hb11 hHeld.2.2.2.2.2.2.2.2.2.2.2⟩ (fun hHeld => ?_)
    clear hK K
    refine no_ 85 ?_
    refine pu_ 9 (some 76) rfl ?_
    refine pu_ 10 (some 86) rfl ?_
    refine pu_ 11 (some 87) rfl ?_
    refine pu_ 12 (some 88) rfl ?_
    refine la_ 13 none rfl (fun K hK => ?_)
    have D11 := Aside0.mk (D10.out.below hb11)
    obtain ⟨cur, hcur, hcs⟩ := own12 D11.out.rw hn2
    refine store_seg (g := P) (o := 0) (cur := cur) (seg := cD x1) rfl rfl (by rfl) (by rfl) (by rfl) rfl (by kernel_rfl) (by simp [cD, Value.oneCell']) hcur (by show 0 + 6 ≤ cur.size; omega) ?_
    intro W12 hW12
    have D12 := Aside0.mk (show DS w0 w W12 g (mm + 1) (.slice (some ⟨P, 0, none⟩) us.length c5) us from by rw [hW12]; exact D11.out.seg 0 0 rfl (by omega) x1 HG1.out)
    clear hW12 hcur hcs cur D11
    refine hK.out _ _ ?_
    clear hK K
    refine pu_ 14 (some 89) rfl ?_
    refine la_ 15 none rfl (fun K hK => ?_)
    obtain ⟨cur2, hcur2, hcs2⟩ := own12 D12.out.rw hn2
    refine store_seg (g := P) (o := 6) (cur := cur2) (seg := cD x0) rfl rfl (by rfl) (by rfl) (by rfl) rfl (by kernel_rfl) (by simp [cD, Value.oneCell']) hcur2 (by show 6 + 6 ≤ cur2.size; omega) ?_
    intro W13 hW13
    have D13 := Aside0.mk (show DS w0 w W13 g (mm + 1) (.slice (some ⟨P, 0, none⟩) us.length c5) us from by rw [hW13]; exact D12.out.seg 1 6 rfl (by omega) x0 HG0.out)
    clear hW13 hcur2 hcs2 cur2 D12
    refine hK.out _ _ ?_
    clear hK K
    refine done_ (by kernel_rfl) ?_
    go_wp2_with fail
    go_ret
    exact ⟨_, rfl, us, hus1, hus5, D13.out.rw, D13.out.rd.le (by omega), D13.out.bw, D13.out.kp⟩
   ·go_wp2_with fail
    go_ret
    exact ⟨_, us, rfl, hus1, hus5, D9.out.rw, D9.out.rd.le (by omega), D9.out.bw, D9.out.kp⟩
end Go.Proofs.YtjeipkfeihahdaaGreatDoor
