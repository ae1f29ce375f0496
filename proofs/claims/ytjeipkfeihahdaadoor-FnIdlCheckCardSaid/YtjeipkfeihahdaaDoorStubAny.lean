/- A drawn schema with a fault now and then: what the walk needs. -/
import Derived.Test.YtjeipkfeihahdaaDoorStubSchDraw2
namespace Go.Proofs.YtjeipkfeihahdaaDoor
set_option linter.unusedVariables false
set_option linter.unusedSimpArgs false
open Go.RowKit Go.Proofs.YtjeipkfeihahdaaDoor.P Go.Proofs.YtjeipkfeihahdaaDoor.Lem Go.Proofs.YtjeipkfeihahdaaDoorW.PrintWords Go.Proofs.YtjeipkfeihahdaaDoorW.PrintLast Go.Proofs.YtjeipkfeihahdaaDoorW.PrintMore
/-- Cell j of a field may hold u. -/
def FitsAt (j : Nat) (u : Value) : Prop := ∀ x : SD, GoodD x → ∃ x' : SD, GoodD x' ∧ (cD x).take j ++ [u] ++ (cD x).drop (j + 1) = cD x'
theorem fits0 (s : ByteArray) (h : s.size ≤ 20) : FitsAt 0 (.string s) := fun x hx => ⟨⟨s, x.f1, x.f2, x.f3, x.f4⟩, ⟨h, hx.2⟩, rfl⟩
theorem fits1 (n : Int) (h : -1000000 ≤ n ∧ n ≤ 1000000) : FitsAt 1 (.int .i64 n) := fun x hx => ⟨⟨x.f0, n, x.f2, x.f3, x.f4⟩, ⟨hx.1, hx.2.1, h, hx.2.2.2⟩, rfl⟩
theorem fits2 (s : ByteArray) (h : s.size ≤ 20) : FitsAt 2 (.string s) := fun x hx => ⟨⟨x.f0, x.f1, ⟨s, x.f2.f1⟩, x.f3, x.f4⟩, ⟨hx.1, h, hx.2.2⟩, rfl⟩
theorem fits5 (n : Int) (h : -1000000 ≤ n ∧ n ≤ 1000000) : FitsAt 5 (.int .i64 n) := fun x hx => ⟨⟨x.f0, x.f1, x.f2, x.f3, n⟩, ⟨hx.1, hx.2.1, hx.2.2.1, h⟩, rfl⟩
theorem own_at {α : Type} {d : Kd α} {e base : Nat} {ok : Nat → Prop} {W : World} {v : Value} {xs : List α} (h : d.R e W base ok v xs) (hn : 0 < xs.length) : ∃ P c, v = .slice (some ⟨P, 0, none⟩) xs.length c := by
  obtain ⟨inner, ho⟩ := Kd.R_own h
  rcases ho.2 with ⟨rfl, hv⟩ | ⟨P, c, cur, rfl, _⟩
  · omega
  · exact ⟨P, c, rfl⟩
/-- A cell of the first field of some row is written: a row of fields stays one. -/
theorem row_store {W : World} {base : Nat} {ok : Nat → Prop} {v u : Value} {us : List Unit} (h : kDx.R 36 W base ok v us) (hn : 1 ≤ us.length) (P j : Nat) (hj : j < 6) (hu : FitsAt j u) : kDx.R 36 (W.setCell ⟨P, j, none⟩ u) base ok v us := by
  obtain ⟨b, c, rfl⟩ := own_at h (by omega)
  by_cases hb : b = P
  · subst hb
    obtain ⟨cs, hl, ⟨x, hx, hM⟩, hc, _⟩ := Kd.R_elem h () 0 (by omega) (by omega)
    have e := k36_openM hM
    subst e
    obtain ⟨x', hx', he⟩ := hu x hx
    obtain ⟨hR, _⟩ := Kd.R_seg (okp := fun _ => False) h 0 (by omega) (by omega) hl hc (j := j) (seg := [u]) (by show j + 1 ≤ 6; omega) (x' := ()) (by
      show kDx.M W base (fun _ => False) () ((cD x).take j ++ [u] ++ (cD x).drop (j + 1))
      rw [he]
      exact kDx_mk _ _ _ x' hx') (fun _ hk => hk.elim)
    rw [units_set] at hR
    have e1 : W.setCells b ((0 : Int).toNat * kDx.sz + j) [u] = W.setCell ⟨b, j, none⟩ u := by
      show W.setCells b (0 * 6 + j) [u] = _
      rw [Nat.zero_mul, Nat.zero_add]
      rfl
    rw [e1] at hR
    exact hR
  · have h1 := Kd.R_flat (ok' := fun k => k ≠ P) (fun hp => hp) h (fun k hk => by
      have : b = k := by simpa [Value.ownBlock] using hk
      omega)
    exact Kd.R_flat (ok := fun k => k ≠ P) (ok' := ok) (fun hp => hp) (Kd.R_far (p := ⟨P, j, none⟩) h1 (fun k hk => hk) u) (fun k hk _ => h.1 k hk)
theorem kSx_store {W : World} {base P : Nat} {ok : Nat → Prop} {v u : Value} {us : List Unit} {cur : Array Value} (h : kSx.R 32 W base ok v us) (hP : W.heap[P]? = some (.cells cur 36 (0, 0))) (j : Nat) (hj : j < 6) (hu : FitsAt j u) : kSx.R 32 (W.setCell ⟨P, j, none⟩ u) base ok v us := by
  have hne := Kd.R_ne h hP (by decide)
  obtain ⟨h0, inner, ho, hr⟩ := h
  refine ⟨h0, inner, own_move ho (fun k hk => Below.heap_setCell W ⟨P, j, none⟩ u k (fun e => hne (by rw [hk]; exact congrArg some e.symm))), hr.imp_ (fun p c hp => ?_)⟩
  obtain ⟨⟨nm, ds⟩, ⟨g1, g2, g3⟩, c0, c1, rfl, hs, vd, rfl, hD⟩ := hp
  exact ⟨(nm, ds), ⟨g1, g2, g3⟩, c0, [vd], rfl, hs, vd, rfl, row_store hD g2 P j hj hu⟩
section
variable {w0 w W W' : World} {g m m' S R : Nat} {a0 a1 vs ve vb : Value} {us0 us1 : List Unit} {lb : List ByteArray}
/-- A struct: its name, and its fields' row. -/
theorem GS.elem {g0 n c : Nat} (h : GS w0 w W g m S R a0 a1 (.slice (some ⟨g0, 0, none⟩) n c) ve vb us0 us1 lb) (i : Nat) (hi : i < n) :
    ∃ (nm : ByteArray) (P nd cd : Nat) (ud : List Unit), nm.size ≤ 20 ∧ 1 ≤ nd ∧ nd ≤ 10 ∧ ud.length = nd ∧ W.cell? ⟨g0, i * 2, none⟩ = some (.string nm) ∧ W.cell? ⟨g0, i * 2 + 1, none⟩ = some (.slice (some ⟨P, 0, none⟩) nd cd) ∧ kDx.R 36 W w.heap.size (fun _ => True) (.slice (some ⟨P, 0, none⟩) nd cd) ud := by
  obtain ⟨cs, hl, ⟨⟨nm, ds⟩, ⟨g1, g2, g3⟩, c0, c1, rfl, hs, vd, rfl, hD⟩, hc, _⟩ := Kd.R_elem h.rs () (i : Int) (by omega) (by omega)
  cases hs
  obtain ⟨P, cd, rfl⟩ := own_at hD (by exact g2)
  exact ⟨nm, P, ds.length, cd, ds, g1, g2, g3, rfl, hc 0 _ rfl, hc 1 _ rfl, Kd.R_mono hD (fun _ _ => trivial)⟩
theorem field0 {base P nd cd : Nat} {ud : List Unit} (h : kDx.R 36 W base (fun _ => True) (.slice (some ⟨P, 0, none⟩) nd cd) ud) (hn : 1 ≤ nd) : ∃ (x : SD) (cur : Array Value), GoodD x ∧ (∀ j u, (cD x)[j]? = some u → W.cell? ⟨P, j, none⟩ = some u) ∧ W.heap[P]? = some (.cells cur 36 (0, 0)) ∧ base ≤ P := by
  obtain ⟨c, hl, ⟨x, hx, hM⟩, hc, _⟩ := Kd.R_elem h () 0 (by omega) (by omega)
  have e := k36_openM hM
  subst e
  obtain ⟨cells, hcl⟩ := Kd.R_typed h P (by simp [Value.ownBlock])
  refine ⟨x, cells, hx, fun j u hu => ?_, hcl, Kd.R_base h P (by simp [Value.ownBlock])⟩
  have := hc j u hu
  have e0 : (0 : Int).toNat * kDx.sz + j = j := by show 0 * 6 + j = j; omega
  rw [e0] at this
  exact this
/-- A cell of a field is written. -/
theorem GS.store (h : GS w0 w W g m S R a0 a1 vs ve vb us0 us1 lb) {P j : Nat} {u : Value} {cur : Array Value} (hP : W.heap[P]? = some (.cells cur 36 (0, 0))) (hw : w.heap.size ≤ P) (hj : j < 6) (hu : FitsAt j u) : GS w0 w (W.setCell ⟨P, j, none⟩ u) g m S R a0 a1 vs ve vb us0 us1 lb := by
  have hg : g ≠ P := by
    rintro rfl
    obtain ⟨cs, hg⟩ := h.rd.blk
    rw [hg] at hP
    injection hP with hP
    injection hP with _ hP
    exact absurd hP (by decide)
  have hS : S ≠ P := by
    rintro rfl
    have := h.bs
    rw [hP] at this
    injection this with this
    injection this with _ this
    exact absurd this (by decide)
  have hR : R ≠ P := by
    rintro rfl
    have := h.br
    rw [hP] at this
    injection this with this
    injection this with _ this
    exact absurd this (by decide)
  exact ⟨h.rd.far hg _, below_set h.bw (Nat.le_trans h.w00 hw), keep_far h.kp hw _, h.w00, blk_far h.bs hS _, blk_far h.br hR _, h.wS, h.wR, h.ne, kSx_store h.rs hP j hj hu, Kd.R_set h.re hP (by decide) j u, Kd.R_set h.rb hP (by decide) j u⟩
theorem GS.any {v0 v1 : Value} (hI : Rdr w0 W g m) (hB : Below w0.heap.size w0 W) (hw : w0.heap.size ≤ w.heap.size) (hk : KeepBut (w.alloc zSch) W g none) (hg : g < w.heap.size) (rs : kSx.R 32 W (w.alloc zSch).heap.size (fun _ => True) v0 us0) (re : kEx.R 65 W (w.alloc zSch).heap.size (fun _ => True) v1 us1) :
    GS w0 w (W.alloc (.cells #[v0, v1] 26)) g m W.heap.size w.heap.size v0 v1 v0 v1 (.slice none 0 0) us0 us1 [] := by
  have hz : (w.alloc zSch).heap.size = w.heap.size + 1 := by simp [World.size_alloc]
  have hsz : w.heap.size + 1 ≤ W.heap.size := by have := hk.1; omega
  have hb := below_alloc (Below.refl W.heap.size W) (.cells #[v0, v1] 26)
  have hr : W.heap[w.heap.size]? = some zSch := hk.blk (heap_alloc_new w zSch) (by omega) (by simp)
  have hkw : KeepBut w W g none := (keep_alloc (KeepBut.refl w g none) zSch).trans hk (.inl rfl)
  exact ⟨hI.below hb, hB.trans (hb.mono hB.size), hkw.trans (KeepBut.of_below hb g none) (.inl rfl), hw, heap_alloc_new W _, blk_alloc hr _, by omega, Nat.le_refl _, by omega, Kd.R_lower (Kd.R_below rs hb) (by omega), Kd.R_mono (Kd.R_lower (Kd.R_below re hb) (by omega)) (fun k _ => by simp [Value.ownBlock]), Kd.R_nil _ _ _ _ _⟩
end
/-- Three texts, as they stand in a program's text. -/
theorem lit3 (W : World) (a b c : ByteArray) : Kd.string.C (W.alloc (.cells #[.string a, .string b, .string c] 9)) (some ⟨W.heap.size, 0, none⟩) 3 [a, b, c] := by
  refine ⟨rfl, by decide, fun _ => ⟨_, rfl, fun j p hj => ⟨[.string p], rfl, rfl, fun i u hi => ?_⟩⟩⟩
  have hb : (W.alloc (.cells #[.string a, .string b, .string c] 9)).heap[W.heap.size]? = some (.cells #[.string a, .string b, .string c] 9 (0, 0)) := heap_alloc_new W _
  obtain rfl : i = 0 := by
    have := (List.getElem?_eq_some_iff.1 hi).1
    simpa using this
  cases hi
  rcases j with _ | _ | _ | j
  · cases hj; exact (blk_cell hb 0).trans rfl
  · cases hj; exact (blk_cell hb 1).trans rfl
  · cases hj; exact (blk_cell hb 2).trans rfl
  · simp at hj
theorem lit3d (W : World) (a b c : ByteArray) : Kd.string.C (W.alloc (.cells #[.string a, .string b, .string c] 9)).drew (some ⟨W.heap.size, 0, none⟩) 3 [a, b, c] := lit3 W.drew a b c
theorem GS.belowd {w0 w W : World} {g m S R : Nat} {a0 a1 vs ve vb : Value} {us0 us1 : List Unit} {lb : List ByteArray} (h : GS w0 w W.drew g m S R a0 a1 vs ve vb us0 us1 lb) (o : Obj) : GS w0 w (W.alloc o).drew g m S R a0 a1 vs ve vb us0 us1 lb := GS.below h (below_alloc (Below.refl _ _) o)
theorem C_belowd {α : Type} {d : Kd α} {W : World} {A : Option Addr} {n : Nat} {xs : List α} (h : d.C W.drew A n xs) (o : Obj) : d.C (W.alloc o).drew A n xs := Kd.C_below h (below_alloc (Below.refl _ _) o)
theorem ofx3 (w0 w : World) (g m : Nat) (b c : Nat) (x y z : ByteArray) (hI : Rdr w0 w g m) (hB : Below w0.heap.size w0 w) (hm : m ≤ 900000) (hA : Kd.C Kd.string w (some ⟨b, 0, none⟩) 3 [x, y, z]) (hc : 3 ≤ c) (hf : b ≠ g) :
    Calls Tryd.prog 27 #[.pointer (some ⟨g, 0, none⟩), .slice (some ⟨b, 0, none⟩) 3 c] w fun e w' => ∃ s : ByteArray, e = .returned (.string s) ∧ s ∈ [x, y, z] ∧ Rdr w0 w' g (m + 1) ∧ Below w0.heap.size w0 w' ∧ KeepBut w w' g none :=
  ofx w0 w g m (some ⟨b, 0, none⟩) c [x, y, z] hI hB hm (by simp) (by simp) hA hc (fun ad he _ => by cases he; exact hf)
theorem GS.lit3 {w0 w W : World} {g m S R : Nat} {a0 a1 vs ve vb : Value} {us0 us1 : List Unit} {lb : List ByteArray} (_ : GS w0 w W g m S R a0 a1 vs ve vb us0 us1 lb) (a b c : ByteArray) : Kd.string.C (W.alloc (.cells #[.string a, .string b, .string c] 9)) (some ⟨W.heap.size, 0, none⟩) 3 [a, b, c] := Go.Proofs.YtjeipkfeihahdaaDoor.lit3 W a b c
/-- Two texts of one's own. -/
theorem own2 (W : World) (ok : Nat → Prop) (a b : ByteArray) (hok : ok W.heap.size) : Kd.string.R 9 (W.alloc (.cells #[.string a, .string b] 9)) W.heap.size ok (.slice (some ⟨W.heap.size, 0, none⟩) 2 2) [a, b] :=
  Kd.R_of_own (enc := Value.string) ⟨rfl, .inr ⟨W.heap.size, 2, #[.string a, .string b], rfl, Nat.le_refl _, heap_alloc_new W _, Nat.le_refl _, by decide, rfl, rfl⟩⟩ (fun k hk => by
    have : W.heap.size = k := by simpa [Value.ownBlock] using hk
    rw [← this]
    exact hok)
section
variable {ops : Array Oper} {o : Oper} {a : Act} {Q : Exit → Act → World → Prop} {Kc : Act → World → Prop} {w0 w W : World} {g m S R : Nat} {a0 a1 vs ve vb : Value} {us0 us1 : List Unit} {lb : List ByteArray}
/-- An enum is put behind the others, in a region that draws its order. -/
theorem enum_append_step (hw : Region.wanted o (yielded ops a.tmps) = true) (s x : Operand) (ho : o.op = .call { callee := .builtin .append, args := #[s, x], argTypes := #[24, 24] }) (hs : a.eval s = ve) (hx : a.eval x = .slice (some ⟨W.heap.size, 0, none⟩) 1 1)
    (h : GS w0 w W g m S R a0 a1 vs ve vb us0 us1 lb) {vw : Value} {ws : List ByteArray} {nm : ByteArray} (hG : nm.size ≤ 20 ∧ ws.length ≤ 10 ∧ ∀ x ∈ ws, x.size ≤ 20) (hD : Kd.string.R 9 W w.heap.size (fun k => some k ≠ vb.ownBlock) vw ws) (hu : us1.length ≤ 10)
    (hc : ∀ v' W', GS w0 w W' g m S R a0 a1 vs v' vb us0 (us1 ++ [()]) lb → Below w.heap.size W W' → Kc (a.put o.dst v') W') :
    if Region.wanted o (yielded ops a.tmps) = true then Oper.wp Tryd.prog o a (W.alloc (.cells #[.string nm, vw] 65)) Kc Q else Kc (a.put o.dst undef) (W.alloc (.cells #[.string nm, vw] 65)) := by
  refine Kd.R_append_step kEx (w0 := W) (W := W) w.heap.size hw s x 24 65 (.agg #[(.string ⟨#[]⟩), (.slice none 0 0)]) 40 ho Tryd.underlying24 info65 rfl (by decide) (by omega) ve us1 () [.string nm, vw] (fun k => some k ≠ vb.ownBlock) (fun k => some k ≠ vb.ownBlock ∧ some k ≠ ve.ownBlock) hs hx
    ⟨(⟨nm, ws⟩ : SE), hG, k65_mkM _ _ _ (⟨nm, ws⟩ : SE) (Kd.R_apart' hD (Kd.R_typed h.re) (by decide))⟩ (fun _ hk => hk) (fun k hk e => Nat.not_le.2 (Kd.R_lt h.rb k e.symm) hk) h.re (Below.refl _ _) h.kp.1 (by omega) ?_
  intro v20 W20 hR20 hb20 hg20 _
  exact hc v20 W20 (h.growE hR20 hb20 hg20) hb20
end
end Go.Proofs.YtjeipkfeihahdaaDoor
