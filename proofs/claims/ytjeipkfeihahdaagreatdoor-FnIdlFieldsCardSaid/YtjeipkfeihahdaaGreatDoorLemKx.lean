/- Rows of which only it is known that each element is small: what is drawn is told so. -/
import Derived.Test.YtjeipkfeihahdaaGreatDoorStubSchm
import Derived.Test.YtjeipkfeihahdaaGreatDoorLemDrw
namespace Go.Proofs.YtjeipkfeihahdaaGreatDoor
set_option linter.unusedVariables false
set_option linter.unusedSimpArgs false
open Go.RowKit Go.Proofs.YtjeipkfeihahdaaGreatDoor.P Go.Proofs.YtjeipkfeihahdaaGreatDoor.Lem Go.Proofs.YtjeipkfeihahdaaGreatDoorW.PrintWords Go.Proofs.YtjeipkfeihahdaaGreatDoorW.PrintLast Go.Proofs.YtjeipkfeihahdaaGreatDoorW.PrintMore
/-- Some value of a kind, of which p holds. -/
def exK {α : Type} (d : Kd α) (p : α → Prop) : Kd Unit where
  sz := d.sz
  E := d.E
  K := fun w _ cs => ∃ x, p x ∧ d.K w x cs
  M := fun w base ok _ cs => ∃ x, p x ∧ d.M w base ok x cs
  K_len := by rintro w _ cs ⟨x, _, h⟩; exact d.K_len h
  K_one := by rintro w _ cs ⟨x, _, h⟩; exact d.K_one h
  K_below := by rintro w w1 _ cs hb ⟨x, hp, h⟩; exact ⟨x, hp, d.K_below hb h⟩
  K_of_M := by rintro w base ok _ cs ⟨x, hp, h⟩; exact ⟨x, hp, d.K_of_M h⟩
  M_mono := by rintro w base ok ok' _ cs hok ⟨x, hp, h⟩; exact ⟨x, hp, d.M_mono hok h⟩
  M_bound := by rintro w base ok _ cs ⟨x, hp, h⟩; exact ⟨x, hp, d.M_bound h⟩
  M_move := by rintro w w1 base ok _ cs hm ⟨x, hp, h⟩; exact ⟨x, hp, d.M_move hm h⟩
  M_lower := by rintro w base base' ok _ cs hb ⟨x, hp, h⟩; exact ⟨x, hp, d.M_lower hb h⟩
section
variable {α β : Type} {d : Kd α} {p : α → Prop} {d' : Kd β} {q : β → Prop} {W W' : World} {A : Option Addr} {n : Nat} {us : List Unit}
theorem exK_map (hs : d.sz = d'.sz) (h : ∀ x cs, p x → d.K W x cs → ∃ y, q y ∧ d'.K W y cs) (hC : (exK d p).C W A n us) : (exK d' q).C W A n us := by
  obtain ⟨h1, h2, h3⟩ := hC
  refine ⟨h1, h2, fun hn => ?_⟩
  obtain ⟨ad, e, hc⟩ := h3 hn
  refine ⟨ad, e, fun j u hj => ?_⟩
  obtain ⟨c, hl, ⟨x, hp, hK⟩, hcell⟩ := hc j u hj
  have hs' : (exK d p).sz = (exK d' q).sz := hs
  rw [hs'] at hl hcell
  exact ⟨c, hl, h x c hp hK, hcell⟩
theorem exK_list (hC : (exK d p).C W A n us) : ∃ xs : List α, xs.length = us.length ∧ (∀ x ∈ xs, p x) ∧ d.C W A n xs := by
  obtain ⟨h1, h2, h3⟩ := hC
  rcases Nat.eq_zero_or_pos n with hn | hn
  · exact ⟨[], by rw [h1, hn]; rfl, fun x hx => absurd hx List.not_mem_nil, by rw [hn]; rfl, h2, fun h => by omega⟩
  obtain ⟨ad, e, hc⟩ := h3 hn
  have key : ∀ j : Fin us.length, ∃ x : α, p x ∧ ∃ c, c.length = d.sz ∧ d.K W x c ∧ ∀ i u, c[i]? = some u → W.cell? (ad.add (j * d.sz + i)) = some u := fun j => by
    obtain ⟨c, hl, ⟨x, hp, hK⟩, hcell⟩ := hc j us[j] (List.getElem?_eq_getElem j.2)
    exact ⟨x, hp, c, hl, hK, hcell⟩
  refine ⟨List.ofFn (fun j => Classical.choose (key j)), by simp, fun x hx => ?_, by simpa using h1, h2, fun _ => ⟨ad, e, fun j x hj => ?_⟩⟩
  · obtain ⟨j, rfl⟩ := List.mem_ofFn.1 hx
    exact (Classical.choose_spec (key j)).1
  · obtain ⟨hjl, hjx⟩ := List.getElem?_eq_some_iff.1 hj
    have hjl' : j < us.length := by simpa using hjl
    have hs := (Classical.choose_spec (key ⟨j, hjl'⟩)).2
    rw [List.getElem_ofFn] at hjx
    rw [hjx] at hs
    exact hs
/-- A value in another's place: of the same sort, and small. -/
def Sim (v v' : Value) : Prop := v' = v ∨ (∃ s s' : ByteArray, v = .string s ∧ v' = .string s' ∧ s'.size ≤ 20) ∨ (∃ a b : Int, v = .int .i64 a ∧ v' = .int .i64 b ∧ -1000000 ≤ b ∧ b ≤ 1000000)
def Tst (W W' : World) : Prop := ∀ ad v, W.cell? ad = some v → ∃ v', W'.cell? ad = some v' ∧ Sim v v'
end
theorem Sim.str {s : ByteArray} {v : Value} (hs : s.size ≤ 20) (h : Sim (.string s) v) : ∃ s', v = .string s' ∧ s'.size ≤ 20 := by
  rcases h with rfl | ⟨_, s', _, rfl, h2⟩ | ⟨_, _, h1, _⟩
  · exact ⟨s, rfl, hs⟩
  · exact ⟨s', rfl, h2⟩
  · cases h1
theorem Sim.num {n : Int} {v : Value} (hn : -1000000 ≤ n ∧ n ≤ 1000000) (h : Sim (.int .i64 n) v) : ∃ m, v = .int .i64 m ∧ -1000000 ≤ m ∧ m ≤ 1000000 := by
  rcases h with rfl | ⟨_, _, h1, _⟩ | ⟨_, m, _, rfl, h2⟩
  · exact ⟨n, rfl, hn⟩
  · cases h1
  · exact ⟨m, rfl, h2⟩
theorem Sim.bool {b : Bool} {v : Value} (h : Sim (.bool b) v) : v = .bool b := by
  rcases h with rfl | ⟨_, _, h1, _⟩ | ⟨_, _, h1, _⟩
  · rfl
  · cases h1
  · cases h1
theorem Sim.slice {A : Option Addr} {n c : Nat} {v : Value} (h : Sim (.slice A n c) v) : v = .slice A n c := by
  rcases h with rfl | ⟨_, _, h1, _⟩ | ⟨_, _, h1, _⟩
  · rfl
  · cases h1
  · cases h1
theorem Tst.below {W W' : World} (h : Below W.heap.size W W') : Tst W W' := fun ad v hv => ⟨v, pw_cell_below h hv, .inl rfl⟩
theorem Tst.trans {W W1 W2 : World} (h : Tst W W1) (h' : Tst W1 W2) : Tst W W2 := by
  intro ad v hv
  obtain ⟨v1, h1, s1⟩ := h ad v hv
  obtain ⟨v2, h2, s2⟩ := h' ad v1 h1
  refine ⟨v2, h2, ?_⟩
  rcases s1 with rfl | ⟨s, s', rfl, rfl, hs⟩ | ⟨a, b, rfl, rfl, hb⟩
  · exact s2
  · obtain ⟨s3, rfl, h3⟩ := s2.str hs
    exact .inr (.inl ⟨s, s3, rfl, rfl, h3⟩)
  · obtain ⟨m, rfl, h3⟩ := s2.num hb
    exact .inr (.inr ⟨a, m, rfl, rfl, h3⟩)
/-- A store into a cell. -/
theorem Tst.set {W : World} {g j : Nat} {v v' : Value} (hc : W.cell? ⟨g, j, none⟩ = some v) (hs : Sim v v') : Tst W (W.setCell ⟨g, j, none⟩ v') := by
  intro ad u hu
  by_cases he : ad = ⟨g, j, none⟩
  · subst he
    rw [hc] at hu
    cases hu
    exact ⟨v', World.cell?_setCell_same _ _ _ hc, hs⟩
  · exact ⟨u, (World.cell?_setCell_other _ _ _ _ (fun e => he e.symm)).trans hu, .inl rfl⟩
/-! ### fields, structs, enums -/
def GoodD (x : SD) : Prop := x.f0.size ≤ 20 ∧ x.f2.f0.size ≤ 20 ∧ (-1000000 ≤ x.f1 ∧ x.f1 ≤ 1000000) ∧ (-1000000 ≤ x.f4 ∧ x.f4 ≤ 1000000)
abbrev kDx : Kd Unit := exK k46 GoodD
abbrev kSx : Kd Unit := exK (Kd.pair Kd.string (Kd.slice 46 kDx)) (fun x => x.1.size ≤ 20 ∧ 1 ≤ x.2.length ∧ x.2.length ≤ 10)
abbrev kEx : Kd Unit := exK k70 (fun e => e.f0.size ≤ 20 ∧ e.f1.length ≤ 10 ∧ ∀ x ∈ e.f1, x.size ≤ 20)
theorem kDx_mk (w : World) (base : Nat) (ok : Nat → Prop) (x : SD) (h : GoodD x) : kDx.M w base ok () [.string x.f0, .int .i64 x.f1, .string x.f2.f0, .bool x.f2.f1, .bool x.f3, .int .i64 x.f4] := ⟨x, h, k46_mkM w base ok x⟩
/-- What was drawn, read. -/
theorem drawn_of {W : World} {A0 A1 : Option Addr} {n0 c0 n1 c1 : Nat} {us0 us1 : List Unit} (h0 : kSx.C W A0 n0 us0) (hn0 : n0 ≤ 5) (hc0 : n0 ≤ c0) (h1 : kEx.C W A1 n1 us1) (hn1 : n1 ≤ 10) (hc1 : n1 ≤ c1) :
    ∃ l0 l1, SchAt W A0 c0 l0 A1 c1 l1 ∧ Small l0 l1 ∧ l0.length = n0 ∧ l1.length = n1 := by
  have h0' : (exK k42 (fun d => d.f0.size ≤ 20 ∧ d.f1.length ≤ 10 ∧ ∀ x ∈ d.f1, GoodD x)).C W A0 n0 us0 := by
    refine exK_map (d := Kd.pair Kd.string (Kd.slice 46 kDx)) (d' := k42) (p := fun x => x.1.size ≤ 20 ∧ 1 ≤ x.2.length ∧ x.2.length ≤ 10) rfl ?_ h0
    rintro ⟨nm, ds⟩ cs ⟨hp1, _, hp2⟩ ⟨a0, a1, rfl, h0, A1, c, rfl, hl1, hC1⟩
    cases h0
    obtain ⟨xs, hx1, hx2, hx3⟩ := exK_list hC1
    have hx1' : ds.length = xs.length := hx1.symm
    refine ⟨⟨nm, xs⟩, ⟨hp1, by show xs.length ≤ 10; rw [hx1]; exact hp2, hx2⟩, ?_⟩
    have hK := k42_mk W (⟨nm, xs⟩ : SS) (A1 := A1) (c1 := c) (by show xs.length ≤ c; rw [hx1]; exact hl1) (by have hx3' : Kd.C k46 W A1 ds.length xs := hx3; rw [hx1'] at hx3'; exact hx3')
    have hK' : k42.K W (⟨nm, xs⟩ : SS) [.string nm, .slice A1 xs.length c] := hK
    rw [hx1] at hK'
    exact hK'
  obtain ⟨l0, hl0, hg0, hC0⟩ := exK_list h0'
  obtain ⟨l1, hl1, hg1, hC1⟩ := exK_list h1
  have e0 : l0.length = n0 := hC0.1
  have e1 : l1.length = n1 := hC1.1
  refine ⟨l0, l1, ⟨by rw [e0]; exact hC0, by omega, by rw [e1]; exact hC1, by omega⟩, ⟨by omega, by omega, fun d hd => ?_, fun e he => hg1 e he⟩, e0, e1⟩
  exact hg0 d hd
end Go.Proofs.YtjeipkfeihahdaaGreatDoor
