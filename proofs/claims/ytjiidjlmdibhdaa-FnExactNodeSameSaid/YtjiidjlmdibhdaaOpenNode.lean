/- A node among the arguments, opened: its six cells, and its rows down to the bottom. -/
import Derived.Test.YtjiidjlmdibhdaaOpens
import Derived.Test.YtjiidjlmdibhdaaStubSize
import Derived.Test.YtjiidjlmdibhdaaLemSame
namespace Go.Proofs.Ytjiidjlmdibhdaa
set_option linter.unusedVariables false
open Go.ChangeShapes Go.WideShapes Go.ChangeAt Go.RowKit Go.Joins Go.Deep
open Go.Proofs.Ytjiidjlmdibhdaa.P Go.Proofs.YtjiidjlmdibhdaaW.PrintWords Go.Proofs.YtjiidjlmdibhdaaW.PrintLast Go.Proofs.YtjiidjlmdibhdaaW.PrintMore
namespace P
open Go.Proofs.Ytjiidjlmdibhdaa.Lem
mutual
theorem lenN_cv : ∀ (x : S24), fineN x → lenN (cvN x)
  | ⟨k, d, p, s, c, i⟩, h => by
    simp only [fineN] at h
    simp only [cvN, lenN]
    exact ⟨lenL_cv p h.2.1, lenL_cv i h.2.2⟩
theorem lenL_cv : ∀ (l : List S24), fineL l → lenL (cvL l)
  | [], _ => by simp [cvL, lenL]
  | x :: l, h => by
    simp only [fineL] at h
    simp only [cvL, lenL]
    refine ⟨?_, lenN_cv x h.2.1, lenL_cv l h.2.2⟩
    have := h.1
    rw [cvL_map]
    simp only [List.length_cons, List.length_map] at *
    exact this
end
end P
section
variable {H : Type} {enc : TypeId × Value → H} {P : Program} {w : World} {base : Nat} {spare : Nat → Bool} {held : Bool}
theorem open_row_lt {α : Type} (d : Kd α) (wf : α → Prop) {t e : TypeId} {fuel : Nat} {cs : List Value} {y : DataW H × List MemPlace} (ht : P.underlying t = some (.slice e)) (hsz : P.cellsOf e = d.sz)
    (op : ∀ (n : Nat), n < fuel → ∀ (cs : List Value) (y : DataW H × List MemPlace), cs.length = d.sz → DataW.trod enc P w base spare held n e cs = some y → ∃ x, d.K w x cs ∧ wf x)
    (h : DataW.trod enc P w base spare held fuel t cs = some y) :
    ∃ A len cap l, cs = [.slice A len cap] ∧ l.length = len ∧ len ≤ cap ∧ len ≤ maxLen ∧ (∀ x ∈ l, wf x) ∧ d.C w A len l := by
  rcases DataW.trod_slice ht h with ⟨rfl, _⟩ | ⟨a, len, cap, elems, rest, n, hn, rfl, _, _, hl, hm, hlen, hel, _⟩
  · exact ⟨none, 0, 0, [], rfl, rfl, Nat.le_refl _, Nat.zero_le _, (fun x hx => by cases hx), rfl, Nat.zero_le _, fun h => absurd h (by decide)⟩
  · have hmx : maxLen = 9223372036854775807 := rfl
    have each : ∀ i, i < len → ∃ x : α, (∃ c : List Value, c.length = d.sz ∧ d.K w x c ∧ ∀ j u, c[j]? = some u → w.cell? (a.add (i * d.sz + j)) = some u) ∧ wf x := by
      intro i hi
      have h1 := hel i hi
      rw [List.getElem?_eq_getElem (by omega), hsz] at h1
      obtain ⟨c, hc, hy⟩ := Option.bind_eq_some_iff.1 h1
      obtain ⟨_, hcl, hcell⟩ := World.cells?_some hc
      obtain ⟨x, hx, hw⟩ := op n (by omega) c _ hcl hy
      refine ⟨x, ⟨c, hcl, hx, fun j u hu => ?_⟩, hw⟩
      have hj : j < d.sz := by rw [← hcl]; exact (List.getElem?_eq_some_iff.1 hu).1
      have h2 := hcell j hj
      rw [← hu, ← h2, Addr.add_add]
    obtain ⟨l, hll, hq⟩ := list_of_each len each
    refine ⟨some a, len, cap, l, rfl, hll, hl, by omega, fun x hx => ?_, hll, by omega, fun _ => ⟨a, rfl, fun j p hp => (hq j p hp).1⟩⟩
    obtain ⟨i, hi, rfl⟩ := List.mem_iff_getElem.1 hx
    exact (hq i _ (List.getElem?_eq_getElem hi)).2
theorem open_agg6 {t : TypeId} {f0 f1 f2 f3 f4 f5 : Field} {n : Nat} {cs : List Value} {y : DataW H × List MemPlace} (hs : P.underlying t = some (.struct #[f0, f1, f2, f3, f4, f5])) (hone : oneCellFields P #[f0, f1, f2, f3, f4, f5] = true) (hl : cs.length = 6)
    (h : DataW.trod enc P w base spare held n t cs = some y) :
    ∃ (c0 c1 c2 c3 c4 c5 : Value) (y0 y1 y2 y3 y4 y5 : DataW H × List MemPlace) (m : Nat), m < n ∧ cs = [c0, c1, c2, c3, c4, c5] ∧ DataW.trod enc P w base spare held m f0.type [c0] = some y0 ∧ DataW.trod enc P w base spare held m f1.type [c1] = some y1 ∧ DataW.trod enc P w base spare held m f2.type [c2] = some y2 ∧ DataW.trod enc P w base spare held m f3.type [c3] = some y3 ∧ DataW.trod enc P w base spare held m f4.type [c4] = some y4 ∧ DataW.trod enc P w base spare held m f5.type [c5] = some y5 := by
  match cs, hl with
  | [c0, c1, c2, c3, c4, c5], _ =>
    obtain ⟨xs, m, hm, hx, _, hlen, hg⟩ := DataW.trod_struct hs h
    obtain ⟨o0, k0⟩ := hone_of hone 0 f0 rfl
    obtain ⟨o1, k1⟩ := hone_of hone 1 f1 rfl
    obtain ⟨o2, k2⟩ := hone_of hone 2 f2 rfl
    obtain ⟨o3, k3⟩ := hone_of hone 3 f3 rfl
    obtain ⟨o4, k4⟩ := hone_of hone 4 f4 rfl
    obtain ⟨o5, k5⟩ := hone_of hone 5 f5 rfl
    match xs, hlen with
    | [y0, y1, y2, y3, y4, y5], _ =>
      exact ⟨c0, c1, c2, c3, c4, c5, y0, y1, y2, y3, y4, y5, m, by omega, rfl, by simpa [o0, k0] using hg 0 f0 rfl, by simpa [o1, k1] using hg 1 f1 rfl, by simpa [o2, k2] using hg 2 f2 rfl, by simpa [o3, k3] using hg 3 f3 rfl, by simpa [o4, k4] using hg 4 f4 rfl, by simpa [o5, k5] using hg 5 f5 rfl⟩
end
theorem open_node {H : Type} {enc : TypeId × Value → H} {w : World} {base : Nat} {spare : Nat → Bool} {held : Bool} : ∀ (fuel : Nat) (cs : List Value) (y : DataW H × List MemPlace), cs.length = 6 → DataW.trod enc Try.prog w base spare held fuel 24 cs = some y → ∃ x, k24.K w x cs ∧ fineN x := by
  intro fuel
  induction fuel using Nat.strongRecOn with
  | _ fuel ih =>
    intro cs y hl h
    obtain ⟨c0, c1, c2, c3, c4, c5, y0, y1, y2, y3, y4, y5, m, hm, rfl, t0, t1, t2, t3, t4, t5⟩ := open_agg6 Try.underlying24 (by kernel_rfl) hl h
    obtain ⟨x0, e0, _, _⟩ := DataW.trod_int Try.underlying3 t0
    obtain ⟨x1, e1, _, hz1⟩ := DataW.trod_string Try.underlying9 t1
    obtain ⟨A2, n2, cap2, l2, e2, hl2, hc2, hm2, hw2, hC2⟩ := open_row_lt k24 fineN Try.underlying22 (by kernel_rfl) (fun n hn cs y hl h => ih n (by omega) cs y hl h) t2
    obtain ⟨x3, e3, _, _⟩ := DataW.trod_int Try.underlying3 t3
    obtain ⟨x4, e4, _, _⟩ := DataW.trod_int Try.underlying3 t4
    obtain ⟨A5, n5, cap5, l5, e5, hl5, hc5, hm5, hw5, hC5⟩ := open_row_lt k24 fineN Try.underlying22 (by kernel_rfl) (fun n hn cs y hl h => ih n (by omega) cs y hl h) t5
    simp only [List.cons.injEq, and_true] at e0 e1 e2 e3 e4 e5
    subst e0 e1 e2 e3 e4 e5 hl2 hl5
    refine ⟨⟨x0, x1, l2, x3, x4, l5⟩, k24_mk w ⟨x0, x1, l2, x3, x4, l5⟩ hc2 hC2 hc5 hC5, ?_⟩
    simp only [fineN]
    exact ⟨hz1, fineL_of hm2 hw2, fineL_of hm5 hw5⟩
/-- A node by value among the arguments. -/
theorem open_node_v {H : Type} {enc : TypeId × Value → H} {w : World} {base b0 : Nat} {spare : Nat → Bool} {held : Bool} {r : Reach} {v : Value} {d : DataW H} {p : List MemPlace} (hv : Value.okWide Try.prog w r b0 24 v) (h : DataW.Trod enc Try.prog w base spare held 24 v d p) :
    ∃ x A2 c2 A5 c5, v = .agg #[.int .i64 x.f0, .string x.f1, .slice A2 x.f2.length c2, .int .i64 x.f3, .int .i64 x.f4, .slice A5 x.f5.length c5] ∧ x.f2.length ≤ c2 ∧ Kd.C k24 w A2 x.f2.length x.f2 ∧ x.f5.length ≤ c5 ∧ Kd.C k24 w A5 x.f5.length x.f5 ∧ fineN x := by
  obtain ⟨cs, rfl, hsz⟩ := okWide_struct Try.underlying24 hv
  obtain ⟨l⟩ := cs
  obtain ⟨fuel, hf⟩ := h
  obtain ⟨x, hK, hfine⟩ := open_node fuel l _ (hsz.trans (by kernel_rfl)) hf
  obtain ⟨A2, c2, A5, c5, rfl, l2, g2, l5, g5⟩ := k24_open hK
  exact ⟨x, A2, c2, A5, c5, rfl, l2, g2, l5, g5, hfine⟩
end Go.Proofs.Ytjiidjlmdibhdaa
