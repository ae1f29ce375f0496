/- The law FnIdlCheck, walked over what the draw hands back. -/
import Derived.Test.YtjeipkfeihahdaaDoorLemSpec
namespace Go.Proofs.YtjeipkfeihahdaaDoor
set_option linter.unusedVariables false
set_option linter.unusedSimpArgs false
open Go.RowKit Go.Proofs.YtjeipkfeihahdaaDoor.P Go.Proofs.YtjeipkfeihahdaaDoor.Lem Go.Proofs.YtjeipkfeihahdaaDoorW.PrintWords Go.Proofs.YtjeipkfeihahdaaDoorW.PrintLast Go.Proofs.YtjeipkfeihahdaaDoorW.PrintMore
/-- A drawn schema. -/
def DrawnQ (w : World) : Ending → World → Prop := fun e w' => ∃ A0 c0 l0 A1 c1 l1, e = .returned (schV A0 c0 l0 A1 c1 l1) ∧ SchAt w' A0 c0 l0 A1 c1 l1 ∧ Small l0 l1 ∧ l0.length ≤ 5 ∧ Below w.heap.size w w'
theorem ic_range (l0 : List SS) (l1 : List SE) : 0 ≤ IC l0 l1 ∧ IC l0 l1 ≤ 5 := by
 unfold IC
 (repeat' split) <;> omega
theorem ic_zero (l0 : List SS) (l1 : List SE) (h : IC l0 l1 = 0) : formedF l0 l1 = true ∧ onceF l0 l1 = true ∧ allD l0 (sizeOk l0 l1) = true ∧ ordF l0 = true ∧ allD l0 (mayOk l0 l1) = true := by
 unfold IC at h
 cases h1 : formedF l0 l1
 ·rw [h1, if_pos rfl] at h; omega
 cases h2 : onceF l0 l1
 ·rw [h1, h2, if_neg (by decide), if_pos rfl] at h; omega
 cases h3 : allD l0 (sizeOk l0 l1)
 ·rw [h1, h2, if_neg (by decide), if_neg (by decide), if_pos h3] at h; omega
 cases h4 : ordF l0
 ·rw [h1, h2, if_neg (by decide), if_neg (by decide), if_neg (by rw [h3]; decide), h4, if_pos rfl] at h; omega
 cases h5 : allD l0 (mayOk l0 l1)
 ·rw [h1, h2, if_neg (by decide), if_neg (by decide), if_neg (by rw [h3]; decide), h4, if_neg (by decide), if_pos h5] at h; omega
 exact ⟨rfl, rfl, rfl, rfl, rfl⟩
/-- The numbers of a struct's fields: from 0 on, each once. -/
theorem ords_perm (ds : List SD) (h : ordOne ds = true) : (ds.map (·.f1)).Perm ((List.range ds.length).map (fun i : Nat => (i : Int))) := by
 have hp := (ordSorted_perm ds).map (·.f1)
 have e : (ordSorted ds).map (·.f1) = (List.range ds.length).map (fun i : Nat => (i : Int)) := by
  apply List.ext_getElem
  ·simp [ordSorted_length]
  ·intro i h1 h2
   have hi : i < ds.length := by simpa [ordSorted_length] using h1
   unfold ordOne at h
   rw [List.all_eq_true] at h
   have := h i (List.mem_range.2 hi)
   rw [decide_eq_true_eq, List.getElem?_eq_getElem (by rw [ordSorted_length]; exact hi)] at this
   simpa using this
 rw [← e]
 exact hp.symm
theorem ords_in (ds : List SD) (h : ordOne ds = true) (j : Nat) (hj : j < ds.length) : ∃ n : Nat, n < ds.length ∧ ds[j].f1 = (n : Int) := by
 have hm : ds[j].f1 ∈ (List.range ds.length).map (fun i : Nat => (i : Int)) := (ords_perm ds h).mem_iff.1 (List.mem_map_of_mem (List.getElem_mem hj))
 obtain ⟨n, hn, he⟩ := List.mem_map.1 hm
 exact ⟨n, List.mem_range.1 hn, he.symm⟩
theorem ords_ne (ds : List SD) (h : ordOne ds = true) (i j : Nat) (hij : i < j) (hj : j < ds.length) : ds[i].f1 ≠ ds[j].f1 := by
 have hn : (ds.map (·.f1)).Nodup := by
  rw [(ords_perm ds h).nodup_iff]
  refine List.pairwise_map.2 ((List.nodup_range).imp (fun hab => ?_))
  omega
 have := (List.pairwise_iff_getElem.1 hn) i j (by simp; omega) (by simpa using hj) hij
 simpa using this
theorem names_ne (l0 : List SS) (l1 : List SE) (h : onceF l0 l1 = true) (d : SS) (hd : d ∈ l0) (i j : Nat) (hij : i < j) (hj : j < d.f1.length) : (d.f1[i]).f0.toList ≠ (d.f1[j]).f0.toList := by
 rw [← once_eq] at h
 unfold onceN at h
 rw [List.all_eq_true] at h
 have := h (d.f1.map (·.f0)) (by simp only [lotsOf, List.mem_append, List.mem_map]; exact .inl (.inl ⟨d, hd, rfl⟩))
 unfold onceL bys at this
 rw [decide_eq_true_eq] at this
 have h2 := (List.pairwise_iff_getElem.1 this) i j (by simp; omega) (by simpa using hj) hij
 rw [ByteArray.toList_eq, ByteArray.toList_eq]
 simpa using h2
/-- One struct more of a name that is there is not fine. -/
theorem more_bad (l0 : List SS) (l1 : List SE) (d : SS) (hd : d ∈ l0) : IC (l0 ++ [d]) l1 ≠ 0 := by
 intro h
 have h2 := (ic_zero _ _ h).2.1
 rw [← once_eq] at h2
 unfold onceN at h2
 rw [List.all_eq_true] at h2
 have := h2 (topOf (l0 ++ [d]) l1) (by simp)
 unfold onceL bys topOf at this
 rw [decide_eq_true_eq] at this
 simp only [List.map_append, List.map_cons, List.map_nil, List.append_assoc] at this
 obtain ⟨i, hi, rfl⟩ := List.mem_iff_getElem.1 hd
 have h3 := (List.nodup_append.1 this).2.2
 exact h3 _ (List.mem_map_of_mem (List.mem_map_of_mem hd)) _ (by simp) rfl
theorem set_block {W : World} {g : Nat} {cur : Array Value} {t : TypeId} {fz : Nat × Nat} (h : W.heap[g]? = some (.cells cur t fz)) (m : Nat) (v : Value) : (W.setCell ⟨g, m, none⟩ v).heap[g]? = some (.cells (cur.setIfInBounds m v) t fz) := by
 obtain ⟨hlt, hk⟩ := Array.getElem?_eq_some_iff.1 h
 show (W.heap.modify g _)[g]? = _
 rw [Array.getElem?_eq_getElem (by rw [Array.size_modify]; exact hlt), Array.getElem_modify_self, hk]
 rfl
section
variable {A0 A1 : Option Addr} {c0 c1 : Nat} {l0 : List SS} {l1 : List SE}
theorem spec_calls (w : World) (hS : Small l0 l1) (h : SchAt w A0 c0 l0 A1 c1 l1) : Calls Tryd.prog 6 #[schV A0 c0 l0 A1 c1 l1] w fun e w' => e = .returned (.int .i64 (IC l0 l1)) ∧ Below w.heap.size w w' := by
 obtain ⟨K, hK⟩ := specIdl_f l0 l1 hS
 exact (spec_IdlCheck.calls K A0 c0 l0 A1 c1 l1 _ w h.h0 h.b0 h.h1 h.b1 (hK K (Nat.le_refl _))).mono fun _ _ h => h
end
theorem own_ge {w : World} {base : Nat} {e : TypeId} {size n : Nat} {v : Value} {xs : List Value} (h : w.ownsRow base e size v n xs) (k : Nat) (hk : v.ownBlock = some k) : base ≤ k := by
 rcases h.2 with ⟨rfl, _⟩ | ⟨g, cap, cur, rfl, hb, _⟩
 ·simp [Value.ownBlock] at hk
 ·have : g = k := by simpa [Value.ownBlock] using hk
  omega
theorem nEmpty {W : World} {g base : Nat} (h : W.heap[g]? = some (.cells #[] 32 (0, 0))) (hb : base ≤ g) (ok : Nat → Prop) (hok : ok g) : Kd.N k32 32 W base ok (.slice (some ⟨g, 0, none⟩) 0 0) [] := by
 refine ⟨fun k hk => ?_, [], rfl, ⟨fun k hk => hk.symm, [], ⟨rfl, .inr ⟨g, 0, #[], rfl, hb, h, Nat.le_refl _, Nat.zero_le _, rfl, rfl⟩⟩, Reps.none _ _⟩, fun j x c hx => by simp at hx⟩
 have : g = k := by simpa [Value.ownBlock] using hk
 subst this
 exact hok
theorem fOne {W : World} {g8 cb : Nat} {B : Option Addr} {okb : Nat → Prop} (d0 : SS) (h : W.heap[g8]? = some (.cells #[.string d0.f0, .slice B d0.f1.length cb] 32 (0, 0))) (hl : d0.f1.length ≤ cb) (hF : Kd.F k36 W okb B d0.f1.length d0.f1) : Kd.F k32 W (fun k => k = g8 ∨ okb k) (some ⟨g8, 0, none⟩) 1 [d0] := fun W' hW => by
 have hlt : g8 < W.heap.size := (Array.getElem?_eq_some_iff.1 h).1
 have hg := (hW g8 (.inl rfl) hlt).trans h
 have hC := hF W' (fun k hk hlt => hW k (.inr hk) hlt)
 refine ⟨rfl, by decide, fun _ => ⟨_, rfl, fun j p hj => ?_⟩⟩
 match j, hj with
 | 0, hj =>
  obtain rfl : d0 = p := by simpa using hj
  refine ⟨[.string d0.f0, .slice B d0.f1.length cb], rfl, k32_mk W' d0 hl hC, fun i u hu => ?_⟩
  rw [add_none, blk_cell hg]
  match i, hu with
  | 0, hu => simpa using hu
  | 1, hu => simpa using hu
/-- What region 24 knows behind the three operations whose order is drawn. -/
def RegF (X : Nat) (W8 : World) (l0 : List SS) (d0 : SS) (s : Nat × Value × Nat) (w' : World) : Prop :=
 Below W8.heap.size W8 w' ∧ Kd.N k32 32 w' W8.heap.size (fun k => k ≠ X) s.2.1 l0 ∧ Kd.F k32 w' (fun k => k = s.2.2 ∨ k < X) (some ⟨s.2.2, 0, none⟩) 1 [d0] ∧ ∀ k, (k = s.2.2 ∨ k < X) → k ≠ X ∧ some k ≠ s.2.1.ownBlock
theorem regEnd1 {X : Nat} {W8 w3 : World} {l0 : List SS} {d0 : SS} {v3 : Value} {B : Option Addr} {cb : Nat} (hX : X < W8.heap.size) (hC : d0.f1.length ≤ cb) (hF : Kd.F k36 W8 (fun k => k < X) B d0.f1.length d0.f1) (hb3 : Below W8.heap.size W8 w3)
  (hN : Kd.N k32 32 w3 W8.heap.size (fun k => k ≠ X) v3 ([] ++ l0)) : RegF X W8 l0 d0 (W8.heap.size, v3, w3.heap.size) (w3.alloc (.cells #[.string d0.f0, .slice B d0.f1.length cb] 32)) := by
 have hs := hb3.size
 have hlt := Kd.N_lt hN
 obtain ⟨_, rows, _, hR, _⟩ := id hN
 obtain ⟨inner, ho⟩ := Kd.R_own hR
 refine ⟨below_alloc hb3 _, Kd.N_alloc hN _, fOne d0 (heap_alloc_new w3 _) hC (Kd.F_below hF (below_alloc hb3 _)), fun k hk => ⟨?_, fun e => ?_⟩⟩
 ·rcases hk with h | h
  ·have h : k = w3.heap.size := h
   omega
  ·have h : k < X := h
   omega
 ·have e : some k = v3.ownBlock := e
  have h1 := hlt k e.symm
  have h2 := own_ge ho k e.symm
  rcases hk with h | h
  ·have h : k = w3.heap.size := h
   omega
  ·have h : k < X := h
   omega
theorem regEnd2 {X : Nat} {W8 Wp w3 : World} {l0 : List SS} {d0 : SS} {v3 u : Value} {B : Option Addr} {cb g8 gx : Nat} (hX : X < W8.heap.size) (hC : d0.f1.length ≤ cb) (hF : Kd.F k36 W8 (fun k => k < X) B d0.f1.length d0.f1)
  (hg8 : Wp.heap[g8]? = some (.cells #[.string d0.f0, .slice B d0.f1.length cb] 32 (0, 0))) (hne : some g8 ≠ u.ownBlock) (hge : W8.heap.size ≤ g8) (hg3 : Wp.grownBy w3 u.ownBlock) (hb3 : Below W8.heap.size W8 w3)
  (hN : Kd.N k32 32 w3 W8.heap.size (fun k => k ≠ X) v3 ([] ++ l0)) (hat : v3.ownBlock = u.ownBlock ∨ ∃ b, v3.ownBlock = some b ∧ Wp.heap.size ≤ b) : RegF X W8 l0 d0 (gx, v3, g8) w3 := by
 have hlt8 : g8 < Wp.heap.size := (Array.getElem?_eq_some_iff.1 hg8).1
 obtain ⟨_, rows, _, hR, _⟩ := id hN
 obtain ⟨inner, ho⟩ := Kd.R_own hR
 refine ⟨hb3, hN, fOne d0 ((hg3.block g8 hlt8 hne).trans hg8) hC (Kd.F_below hF hb3), fun k hk => ⟨?_, fun e => ?_⟩⟩
 ·rcases hk with h | h
  ·have h : k = g8 := h
   omega
  ·have h : k < X := h
   omega
 ·have e : some k = v3.ownBlock := e
  rcases hk with h | h
  ·have h : k = g8 := h
   subst h
   rcases hat with h2 | ⟨b, h2, h3⟩
   ·exact hne (e.trans h2)
   ·rw [h2] at e
    injection e with e
    omega
  ·have h : k < X := h
   have h2 := own_ge ho k e.symm
   omega
theorem infoB : (Tryd.prog.info? 4).map (fun i => (i.zero, i.size, i.bytes)) = some (some (.bool false), 1, 1) := by kernel_rfl
set_option maxHeartbeats 4000000 in
set_option maxRecDepth 100000 in
theorem law_calls (A : Option Addr) (c : Nat) (l : List Int) (w : World) (hSB : SBw w) (hd : Calls Tryd.prog 4 #[.slice A l.length c] w (DrawnQ w)) :
  Calls Tryd.prog 3 #[.slice A l.length c] w fun e w' => e = .returned (.bool true) ∧ Below w.heap.size w w' := by
 by_cases hlen : (1048576 : Int) < (l.length : Int)
 ·clear hd
  go_enter Tryd.func3, Tryd.ntmps3
  go_wp2_with fail
  go_ret
  exact ⟨rfl, Below.refl _ _⟩
 go_enter Tryd.func3, Tryd.ntmps3
 go_upto_region 3 with fail
 go_upto_region 4 with (go_at_call 4; refine hd.mono ?_; clear hd; rintro e W2 ⟨A0, c0, l0, A1, c1, l1, rfl, hsch, hS, hl5, hb2⟩; have HSCH := Aside0.mk hsch; have HS := Aside0.mk hS; have HB2 := Aside0.mk hb2; clear hsch hS hb2)
 obtain ⟨W3, hW3⟩ : ∃ W3, W3 = W2.alloc (.cells #[.slice A0 l0.length c0, .slice A1 l1.length c1] 26) := ⟨_, rfl⟩
 have hb3 : Below W2.heap.size W2 W3 := by rw [hW3]; exact below_alloc (Below.refl _ _) _
 have x0 : W3.cell? ⟨W2.heap.size, 0, none⟩ = some (.slice A0 l0.length c0) := by rw [hW3]; simp
 have x1 : W3.cell? ⟨W2.heap.size, 1, none⟩ = some (.slice A1 l1.length c1) := by rw [hW3]; simp
 have PC := Aside0.mk (fun (W : World) (hW : Below W3.heap.size W3 W) => And.intro (pw_cell_below hW x0) (pw_cell_below hW x1))
 rw [← hW3]
 have HSB := Aside0.mk hSB
 have HSCH3 := Aside0.mk (HSCH.out.below hb3)
 have HB3 := Aside0.mk (show Below w.heap.size w W3 from HB2.out.trans (hb3.mono HB2.out.size))
 have PI := Aside0.mk (fun (W : World) (hW : Below W3.heap.size W3 W) => idl_calls W (HSB.out.mv (HB3.out.trans (hW.mono HB3.out.size))) HS.out (HSCH3.out.below hW))
 have PQ := Aside0.mk (fun (W : World) (hW : Below W3.heap.size W3 W) => spec_calls W HS.out (HSCH3.out.below hW))
 have PS := Aside0.mk (fun (W : World) (hW : Below W3.heap.size W3 W) => struct_at (Kd.C_below HSCH3.out.h0 hW))
 have hi3 := PI.out W3 (Below.refl _ _)
 obtain ⟨r, hr⟩ : ∃ r, r = IC l0 l1 := ⟨_, rfl⟩
 obtain ⟨hr0, hr5⟩ := ic_range l0 l1
 have HRe := Aside0.mk hr
 rw [← hr] at hi3 hr0 hr5
 clear hW3 hb3 hr hSB HSCH
 go_upto_region 5 with (go_at_call 5; refine hi3.mono ?_; clear hi3; rintro e W4 ⟨rfl, hb4⟩; have HB4 := Aside0.mk hb4; clear hb4)
 obtain ⟨y0, y1⟩ := PC.out W4 HB4.out
 have hq4 := PQ.out W4 HB4.out
 rw [← HRe.out] at hq4
 clear x0 x1
 by_cases hrz : r = 0
 case neg =>
  have hPQ := Aside0.mk (fun W (hW : Below W3.heap.size W3 W) => by have := PQ.out W hW; rw [← HRe.out] at this; exact this)
  have e1 : decide (0 ≤ r) = true := decide_eq_true hr0
  have e2 : decide (r ≤ 5) = true := decide_eq_true hr5
  have e3 : (r == 0) = false := by simp [hrz]
  have e4 : (r != 0) = true := by simp [hrz]
  clear PQ PI PS
  go_wp2_with (go_at_call 6; first | (refine hq4.mono ?_; clear hq4; rintro e W5 ⟨rfl, hb5⟩; have HB5 := Aside0.mk (HB4.out.trans (hb5.mono HB4.out.size)); obtain ⟨z0, z1⟩ := PC.out W5 HB5.out; clear hb5) | (refine (hPQ.out W5 HB5.out).mono ?_; clear hPQ; rintro e W6 ⟨rfl, hb6⟩; have HB6 := Aside0.mk hb6; clear hb6))
  go_ret
  exact ⟨rfl, HB3.out.trans ((HB5.out.trans (HB6.out.mono HB5.out.size)).mono HB3.out.size)⟩
 case pos =>
  subst hrz
  obtain ⟨hF, hO, hZ, hOr, hM⟩ := ic_zero l0 l1 HRe.out.symm
  have HDP := Aside0.mk (formed_lots hF).2
  have HO := Aside0.mk hO
  have HOr := Aside0.mk hOr
  have HND := Aside0.mk (fun d (hd : d ∈ l0) => (HS.out.s0 d hd).2.1)
  clear hF hO hZ hOr hM
  go_upto_region 7 with (go_at_call 6; refine hq4.mono ?_; clear hq4; rintro e W5 ⟨rfl, hb5⟩; have HB5 := Aside0.mk (HB4.out.trans (hb5.mono HB4.out.size)); clear hb5)
  clear y0 y1
  go_upto_region 8 with fail
  go_loopg [5] l0.length (fun gg v5 wr => ∃ i : Nat, v5 = .int .i64 i ∧ i ≤ l0.length ∧ l0.length - i ≤ gg ∧ Aside0 (Below W3.heap.size W3 wr))
  case atStart => exact ⟨0, rfl, by omega, by omega, HB5⟩
  case round =>
   obtain ⟨i, rfl, hi, hgg, HB6⟩ := hrel
   obtain ⟨W6, rfl⟩ : ∃ W6, W6 = wr := ⟨_, rfl⟩
   obtain ⟨y0, y1⟩ := PC.out W6 HB6.out
   by_cases hlt : i < l0.length
   ·obtain ⟨ad, B, cb, rfl, h1, h2, h3, h4⟩ := PS.out W6 HB6.out i hlt
    have hlt' : (i : Int) < (l0.length : Int) := by omega
    obtain ⟨d, hdd⟩ : ∃ d, d = l0[i] := ⟨_, rfl⟩
    have hdm : d ∈ l0 := by rw [hdd]; exact List.getElem_mem _
    have hd10 := HND.out d hdm
    have hd0 := HDP.out d hdm
    have HDM := Aside0.mk hdm
    have hord : ordOne d.f1 = true := by
     have := HOr.out
     unfold ordF at this
     rw [List.all_eq_true] at this
     exact this d hdm
    have HORD := Aside0.mk hord
    have PD := Aside0.mk (fun (W : World) (hW : Below W3.heap.size W3 W) => show ∃ B cb, W.cell? ⟨(ad.add (i * 2)).block, (ad.add (i * 2)).off + 1, none⟩ = some (.slice B d.f1.length cb) ∧ d.f1.length ≤ cb ∧ Kd.C k36 W B d.f1.length d.f1 from by
     obtain ⟨ad', B, cb, e, _, q2, q3, q4⟩ := PS.out W hW i hlt
     cases e
     rw [← hdd] at q2 q3 q4
     exact ⟨B, cb, q2, q3, q4⟩)
    rw [← hdd] at h1 h2 h3 h4
    clear hdd hdm hord h4
    go_upto_region 11 with ((with_reducible refine gate_dst (N := 52) rfl ?_); refine Kd.R_make Kd.bool (w0 := W6) W6.heap.size 4 rfl (N := 52) rfl 29 (.tmp 51) (.tmp 51) rfl (d.f1.length : Int) rfl rfl Tryd.underlying29 (.bool false) 1 infoB rfl (by decide) (by omega) false (ok := fun k => W6.heap.size ≤ k) (okp := fun _ => False) rfl (fun _ h => h.elim) (Nat.le_refl _) (by omega) (by omega) (Below.refl _ _) (Nat.le_refl _) ?_; intro v1 W7 hR hB hg hat; have HR := Aside0.mk hR; have HB7 := Aside0.mk hB; clear hR hB hg hat)
    obtain ⟨g, cap, cur, rfl, hge, hgb, hcap, hcs, hcf⟩ : ∃ g cap cur, v1 = .slice (some ⟨g, 0, none⟩) d.f1.length cap ∧ W6.heap.size ≤ g ∧ W7.heap[g]? = some (.cells cur 4 (0, 0)) ∧ d.f1.length ≤ cap ∧ d.f1.length ≤ cur.size ∧ ∀ m, m < d.f1.length → cur[m]? = some (.bool false) := by
     have ho := Kd.own_of_R (enc := Value.bool) (h1 := fun _ => rfl) HR.out
     simp only [List.length_replicate, Int.toNat_natCast] at ho
     rcases ho.2 with ⟨_, hz⟩ | ⟨g, cap, cur, hv, a1, a2, a3, a4, a5, a6⟩
     ·omega
     ·refine ⟨g, cap, cur, hv, a1, a2, a3, by omega, fun m hm => ?_⟩
      have e1 : (cur.toList.take (d.f1.length * 1))[m]? = some (.bool false) := by rw [a6]; simp [encs, hm]
      rw [List.getElem?_take, if_pos (by omega), Array.getElem?_toList] at e1
      exact e1
    have hg3 : W3.heap.size ≤ g := Nat.le_trans HB6.out.size hge
    have HG3 := Aside0.mk hg3
    have HBL := Aside0.mk (And.intro hgb (And.intro hcs hcf))
    have HB8 := Aside0.mk (show Below W3.heap.size W3 W7 from HB6.out.trans (HB7.out.mono HB6.out.size))
    clear hgb hcs hcf hge hg3 HR y0 y1 h1 h2
    go_upto_region 12 with fail
    go_loopg [7] d.f1.length (fun gg v7 wr => ∃ (j : Nat) (cur : Array Value), v7 = .int .i64 j ∧ j ≤ d.f1.length ∧ d.f1.length - j ≤ gg ∧ Aside0 (Below W3.heap.size W3 wr) ∧ Aside0 (wr.heap[g]? = some (.cells cur 4 (0, 0)) ∧ d.f1.length ≤ cur.size ∧ ∀ m, m < d.f1.length → cur[m]? = some (.bool (decide (∃ q, ∃ h : q < d.f1.length, q < j ∧ d.f1[q].f1 = (m : Int))))))
    case atStart => exact ⟨0, cur, rfl, by omega, by omega, HB8, ⟨HBL.out.1, HBL.out.2.1, fun m hm => by rw [HBL.out.2.2 m hm, decide_eq_false (by rintro ⟨q, _, hq, _⟩; omega)]⟩⟩
    case round =>
     obtain ⟨j, cur2, rfl, hj, hgj, HB9, HBL2⟩ := hrel
     obtain ⟨W9, rfl⟩ : ∃ W9, W9 = wr := ⟨_, rfl⟩
     obtain ⟨y0, y1⟩ := PC.out W9 HB9.out
     obtain ⟨B9, cb9, h2, hcb9, h4⟩ := PD.out W9 HB9.out
     by_cases hltj : j < d.f1.length
     ·obtain ⟨ad2, rfl, e0, e1, e2, e3, e4, e5⟩ := decl_at h4 j hltj
      have hltj' : (j : Int) < (d.f1.length : Int) := by omega
      obtain ⟨m, hmn, hme⟩ := ords_in d.f1 HORD.out j hltj
      rw [hme] at e1
      have hbf : W9.cell? ⟨g, m, none⟩ = some (.bool false) := by
       rw [blk_cell HBL2.out.1 m, HBL2.out.2.2 m hmn, decide_eq_false]
       rintro ⟨q, hq, hqj, he⟩
       exact ords_ne d.f1 HORD.out q j hqj hltj (he.trans hme.symm)
      have hfz : W9.frozen? ⟨g, m, none⟩ = false := blk_frozen HBL2.out.1 m
      have hmn' : (m : Int) < (d.f1.length : Int) := by omega
      have hmcap : (m : Int) < (cap : Int) := by omega
      have HME := Aside0.mk hme
      have H4 := Aside0.mk h4
      clear h4 hme e0 e2 e3 e4 e5
      go_upto_region 18 with fail
      obtain ⟨W10, hW10⟩ : ∃ W10, W10 = W9.setCell ⟨g, m, none⟩ (.bool true) := ⟨_, rfl⟩
      rw [← hW10]
      have HB10 := Aside0.mk (show Below W3.heap.size W3 W10 from by rw [hW10]; exact below_set HB9.out HG3.out)
      obtain ⟨cur3, hcur3⟩ : ∃ c3, c3 = cur2.setIfInBounds m (.bool true) := ⟨_, rfl⟩
      have HC3 := Aside0.mk (show d.f1.length ≤ cur3.size ∧ ∀ m', m' < d.f1.length → cur3[m']? = some (.bool (decide (∃ q, ∃ h : q < d.f1.length, q < j + 1 ∧ d.f1[q].f1 = (m' : Int)))) from by
       rw [hcur3]
       refine ⟨by simpa using HBL2.out.2.1, fun m' hm' => ?_⟩
       rw [Array.getElem?_setIfInBounds]
       by_cases hmm : m = m'
       ·subst hmm
        rw [if_pos rfl, if_pos (Nat.lt_of_lt_of_le hm' HBL2.out.2.1), decide_eq_true ⟨j, hltj, by omega, HME.out⟩]
       ·rw [if_neg hmm, HBL2.out.2.2 m' hm']
        congr 2
        rw [decide_eq_decide]
        constructor
        ·rintro ⟨q, hq, h1, h2⟩
         exact ⟨q, hq, by omega, h2⟩
        ·rintro ⟨q, hq, h1, h2⟩
         rcases Nat.lt_or_eq_of_le (Nat.le_of_lt_succ h1) with h3 | h3
         ·exact ⟨q, hq, h3, h2⟩
         ·subst h3
          rw [HME.out] at h2
          omega)
      have HBL3 := Aside0.mk (show W10.heap[g]? = some (.cells cur3 4 (0, 0)) from by rw [hW10, hcur3]; exact set_block HBL2.out.1 m _)
      clear hW10 hcur3 y0 y1 h2 hbf hfz
      go_upto_region 19 with fail
      go_loopg [9] j (fun gg v9 wr => ∃ h : Nat, v9 = .int .i64 h ∧ h ≤ j ∧ j - h ≤ gg ∧ Aside0 (Below W3.heap.size W3 wr) ∧ Aside0 (wr.heap[g]? = some (.cells cur3 4 (0, 0))))
      case atStart => exact ⟨0, rfl, by omega, by omega, HB10, HBL3⟩
      case round =>
       obtain ⟨h, rfl, hh, hgh, HB11, HBL4⟩ := hrel
       obtain ⟨W11, rfl⟩ : ∃ W11, W11 = wr := ⟨_, rfl⟩
       by_cases hlth : h < j
       ·have hlth' : (h : Int) < (j : Int) := by omega
        have hhn : h < d.f1.length := by omega
        have hhn' : (h : Int) < (d.f1.length : Int) := by omega
        have hne := names_ne l0 l1 HO.out d HDM.out h j hlth hltj
        obtain ⟨nh, hnh⟩ : ∃ s, s = d.f1[h].f0 := ⟨_, rfl⟩
        obtain ⟨nj, hnj⟩ : ∃ s, s = d.f1[j].f0 := ⟨_, rfl⟩
        rw [← hnh, ← hnj] at hne
        have hnb : (nh.toList == nj.toList) = false := by simp [hne]
        obtain ⟨y0, y1⟩ := PC.out W11 HB11.out
        obtain ⟨B11, cb11, q2, hcb11, q4⟩ := PD.out W11 HB11.out
        obtain ⟨ad3, rfl, f0, _⟩ := decl_at q4 h hhn
        obtain ⟨ad4, he4, g0, _⟩ := decl_at q4 j hltj
        cases he4
        rw [← hnh] at f0
        rw [← hnj] at g0
        clear q4 hnh hnj
        go_upto_region 21 with fail
        go_quiet (fail)
        go_wp2_with fail
        go_roundg (j - (h + 1))
        case measure => omega
        case rel => exact ⟨h + 1, by go_num, by omega, by omega, ⟨pw_below_drewN HB11.out _⟩, ⟨HBL4.out⟩⟩
       ·obtain rfl : h = j := by omega
        go_wp2_with fail
        go_roundg (d.f1.length - (h + 1))
        case measure => omega
        case rel => exact ⟨h + 1, cur3, by go_num, by omega, by omega, HB11, ⟨HBL4.out, HC3.out⟩⟩
     ·obtain rfl : j = d.f1.length := by omega
      go_wp2_with fail
      go_roundg (l0.length - (i + 1))
      case measure => omega
      case rel => exact ⟨i + 1, by go_num, by omega, by omega, HB9⟩
   ·obtain rfl : i = l0.length := by omega
    clear PS PQ
    go_upto_region 23 with fail
    go_upto_region 24 with fail
    have hpos : 0 < l0.length := by
     have := (ic_zero l0 l1 HRe.out.symm).1
     unfold formedF at this
     simp only [Bool.and_eq_true, decide_eq_true_eq] at this
     omega
    obtain ⟨d0, hd0⟩ : ∃ d, d = l0[0] := ⟨_, rfl⟩
    have hsch6 := HSCH3.out.below HB6.out
    obtain ⟨ad, B0, cb0, rfl, h1, h2, hB0C, h4⟩ := struct_at hsch6.h0 0 hpos
    rw [← hd0] at h1 h2 hB0C h4
    obtain ⟨bb, oo, rfl⟩ : ∃ b o, ad = ⟨b, o, none⟩ := by
     obtain ⟨b, o, e⟩ := spot_none h1
     refine ⟨ad.block, ad.off, ?_⟩
     have hspot : (ad.add (0 * 2)).spot = none := by rw [e]
     have : ad.add (0 * 2) = ad := by unfold Addr.add; simp
     rw [this] at hspot
     cases ad; cases hspot; rfl
    rw [add_none] at h1 h2
    obtain ⟨X, hX⟩ : ∃ X, X = W6.heap.size := ⟨_, rfl⟩
    obtain ⟨P, hP⟩ : ∃ P, P = W2.heap.size := ⟨_, rfl⟩
    obtain ⟨W8, hW8⟩ : ∃ W8, W8 = W6.alloc (.cells #[.slice (some ⟨bb, oo, none⟩) l0.length c0, .slice A1 l1.length c1] 26) := ⟨_, rfl⟩
    have hb8 : Below W6.heap.size W6 W8 := by rw [hW8]; exact below_alloc (Below.refl _ _) _
    have hX8 : W8.heap[X]? = some (.cells #[.slice (some ⟨bb, oo, none⟩) l0.length c0, .slice A1 l1.length c1] 26 (0, 0)) := by rw [hW8, hX]; exact heap_alloc_new W6 _
    have hXl : X < W8.heap.size := (Array.getElem?_eq_some_iff.1 hX8).1
    obtain ⟨p0, p1⟩ := PC.out W8 (HB6.out.trans (hb8.mono HB6.out.size))
    have h1' := pw_cell_below hb8 h1
    have h2' := pw_cell_below hb8 h2
    have hFs : Kd.F k32 W8 (fun k => k < X) (some ⟨bb, oo, none⟩) l0.length l0 := by rw [hX]; exact Kd.F_below (Kd.C_F heapS hsch6.h0) hb8
    have hB0F : Kd.F k36 W8 (fun k => k < X) B0 d0.f1.length d0.f1 := by rw [hX]; exact Kd.F_below (Kd.C_F heapD h4) hb8
    rw [← hP] at p0 p1
    have PF := Aside0.mk (fun (w' : World) (hw : Below W8.heap.size W8 w') => And.intro (pw_cell_below hw p0) (And.intro (pw_cell_below hw h1') (pw_cell_below hw h2')))
    have PFF := Aside0.mk (fun (w' : World) (hw : Below W8.heap.size W8 w') => Kd.F_below hFs hw)
    have PX := Aside0.mk (fun (w' : World) (hw : Below W8.heap.size W8 w') => (hw.block X hXl).trans hX8)
    have HX := Aside0.mk hXl
    have HW8 := Aside0.mk hW8
    have HD0 := Aside0.mk hd0
    have HB8 := Aside0.mk (show Below W3.heap.size W3 W8 from HB6.out.trans (hb8.mono HB6.out.size))
    have hdz : W8.drew.heap.size = W8.heap.size := rfl
    have hpos0 : (0 : Int) < (l0.length : Int) := by omega
    have hposd : decide ((0 : Int) < (l0.length : Int)) = true := decide_eq_true hpos0
    rw [← hX, ← hP, ← hW8]
    have HPX := Aside0.mk hP
    have HXX := Aside0.mk hX
    clear h1 h2 h1' h2' h4 p0 p1 hX8 hsch6 hd0 hW8 hFs hX hP hb8 PC
    go_upto_region 24 with fail
    refine start_ (n := 12) (S := fun w' => w'.cell? ⟨P, 0, none⟩ = some (.slice (some ⟨bb, oo, none⟩) l0.length c0) ∧ w'.cell? ⟨bb, oo, none⟩ = some (.string d0.f0) ∧ w'.cell? ⟨bb, oo + 1, none⟩ = some (.slice B0 d0.f1.length cb0)) (ds := [11]) #[false, false, false, false, false, false, false, false, false, false, false, false] (by kernel_rfl) rfl rfl ⟨(PF.out _ (below_drew1 (Below.refl _ _))).1, (PF.out _ (below_drew1 (Below.refl _ _))).2.1, (PF.out _ (below_drew1 (Below.refl _ _))).2.2⟩ (fun hHeld => ?_)
    refine pure_ (i := 1) (N := some 119) (v := ?_) (a' := ?_) #[false, true, false, false, false, false, false, false, false, false, false, false] rfl rfl (by kernel_rfl) (fun _ _ _ h => h) (Or.inl ⟨by rfl, ?_⟩) ?_ ?_
    rotate_left
    ·intro w'
     go_simp
     with_reducible rfl
    rotate_left
    ·simp only [Act.put, List.setIfInBounds_toArray, List.set_cons_zero, List.set_cons_succ, i64_w, i32_w]
     rfl
    refine pure_ (i := 4) (N := some 122) (v := ?_) (a' := ?_) #[false, true, false, false, true, false, false, false, false, false, false, false] rfl rfl (by kernel_rfl) (fun _ _ _ h => h) (Or.inl ⟨by rfl, ?_⟩) ?_ ?_
    rotate_left
    ·intro w'
     go_simp
     with_reducible rfl
    rotate_left
    ·simp only [Act.put, List.setIfInBounds_toArray, List.set_cons_zero, List.set_cons_succ, i64_w, i32_w]
     rfl
    refine take_ (i := 2) (N := some 120) (v := ?_) (a' := ?_) #[false, true, true, false, true, false, false, false, false, false, false, false] rfl rfl (by kernel_rfl) (fun _ _ _ h => h) (Or.inl ⟨by rfl, ?_⟩) hHeld ?_ ?_
    rotate_left
    ·rintro w' ⟨s0, s1, s2⟩
     go_simp
     with_reducible rfl
    rotate_left
    ·simp only [Act.put, List.setIfInBounds_toArray, List.set_cons_zero, List.set_cons_succ, i64_w, i32_w]
     rfl
    refine take_ (i := 5) (N := some 123) (v := ?_) (a' := ?_) #[false, true, true, false, true, true, false, false, false, false, false, false] rfl rfl (by kernel_rfl) (fun _ _ _ h => h) (Or.inl ⟨by rfl, ?_⟩) hHeld ?_ ?_
    rotate_left
    ·rintro w' ⟨s0, s1, s2⟩
     go_simp
     with_reducible rfl
    rotate_left
    ·simp only [Act.put, List.setIfInBounds_toArray, List.set_cons_zero, List.set_cons_succ, i64_w, i32_w]
     rfl
    refine pure_ (i := 6) (N := some 124) (v := ?_) (a' := ?_) #[false, true, true, false, true, true, true, false, false, false, false, false] rfl rfl (by kernel_rfl) (fun _ _ _ h => h) (Or.inl ⟨by rfl, ?_⟩) ?_ ?_
    rotate_left
    ·intro w'
     go_simp
     with_reducible rfl
    rotate_left
    ·simp only [Act.put, List.setIfInBounds_toArray, List.set_cons_zero, List.set_cons_succ, i64_w, i32_w]
     rfl
    refine take_ (i := 7) (N := some 125) (v := ?_) (a' := ?_) #[false, true, true, false, true, true, true, true, false, false, false, false] rfl rfl (by kernel_rfl) (fun _ _ _ h => h) (Or.inl ⟨by rfl, ?_⟩) hHeld ?_ ?_
    rotate_left
    ·rintro w' ⟨s0, s1, s2⟩
     go_simp
     with_reducible rfl
    rotate_left
    ·simp only [Act.put, List.setIfInBounds_toArray, List.set_cons_zero, List.set_cons_succ, i64_w, i32_w]
     rfl
    refine join_ (σ := Nat × Value × Nat) 3 #[true, true, true, true, true, true, true, true, true, false, false, false] (fun s => [(118, .slice (some ⟨s.1, 0, none⟩) 0 0), (121, s.2.1), (126, .slice (some ⟨s.2.2, 0, none⟩) 1 1)]) (fun s w' => RegF X W8 l0 d0 s w') ?_ ?_
    rotate_left
    ·intro hCont
     refine two_ (i := 0) (j := 8) (Ni := some 118) (Nj := some 126) #[true, true, true, false, true, true, true, true, false, false, false, false] #[false, true, true, false, true, true, true, true, true, false, false, false] rfl rfl rfl rfl (by kernel_rfl) (by decide) (by decide) (fun K hK => ?_) (fun K hK => ?_)
     ·skip
      refine value_ (w1 := ?_) (v := ?_) (by rfl) rfl ?_ ?_
      rotate_left 2
      ·go_simp
       constructor
       ·rfl
       ·rfl
      refine hK.out _ _ ⟨(PF.out _ (below_alloc (below_drew1 (Below.refl _ _)) _)).1, (PF.out _ (below_alloc (below_drew1 (Below.refl _ _)) _)).2.1, (PF.out _ (below_alloc (below_drew1 (Below.refl _ _)) _)).2.2⟩ (fun hHeld => ?_)
      clear hK K
      refine norm_ (a' := ?_) ?_ ?_
      rotate_left
      ·show Act.put _ (some 118) _ = _
       simp only [Act.put, List.setIfInBounds_toArray, List.set_cons_zero, List.set_cons_succ, i64_w, i32_w]
       rfl
      refine two_ (i := 3) (j := 8) (Ni := some 121) (Nj := some 126) #[true, true, true, true, true, true, true, true, false, false, false, false] #[true, true, true, false, true, true, true, true, true, false, false, false] rfl rfl rfl rfl (by kernel_rfl) (by decide) (by decide) (fun K hK => ?_) (fun K hK => ?_)
      ·skip
       refine Kd.N_append_rows_step k32 (w0 := W8) W8.heap.size (by rfl) (.tmp 118) (.tmp 120) 23 32 (.agg #[(.string ⟨#[]⟩), (.slice none 0 0)]) 40 rfl Tryd.underlying23 info32 rfl (by decide) (by omega) (.slice (some ⟨W8.heap.size, 0, none⟩) 0 0) [] l0 (some ⟨bb, oo, none⟩) l0.length c0 (fun k => k ≠ X) (fun k => k < X) rfl rfl (nEmpty (heap_alloc_new W8.drew _) (Nat.le_refl _) _ (by omega)) (PFF.out _ (below_alloc (below_drew1 (Below.refl _ _)) _)) (fun k hk => ⟨by omega, fun e => by have e' : k = W8.heap.size := Option.some.inj e; omega⟩) (fun k hk => Nat.ne_of_gt (Nat.lt_of_lt_of_le HX.out (Nat.le_trans (below_size (below_alloc (below_drew1 (Below.refl _ _)) _)) hk))) (below_alloc (below_drew1 (Below.refl _ _)) _) (below_size (below_alloc (below_drew1 (Below.refl _ _)) _)) (by simp; omega) ?_
       intro v3 w3 hN3 hb3 hg3 hat3
       refine hK.out _ _ ⟨(PF.out _ (hb3)).1, (PF.out _ (hb3)).2.1, (PF.out _ (hb3)).2.2⟩ (fun hHeld => ?_)
       clear hK K
       refine norm_ (a' := ?_) ?_ ?_
       rotate_left
       ·show Act.put _ (some 121) _ = _
        simp only [Act.put, List.setIfInBounds_toArray, List.set_cons_zero, List.set_cons_succ, i64_w, i32_w]
        rfl
       refine one_ (i := 8) (N := some 126) #[true, true, true, true, true, true, true, true, true, false, false, false] rfl rfl (by kernel_rfl) (by decide) (fun K hK => ?_)
       refine value_ (w1 := ?_) (v := ?_) (by rfl) rfl ?_ ?_
       rotate_left 2
       ·go_simp
        constructor
        ·rfl
        ·rfl
       refine hK.out _ _ ⟨(PF.out _ (below_alloc (hb3) _)).1, (PF.out _ (below_alloc (hb3) _)).2.1, (PF.out _ (below_alloc (hb3) _)).2.2⟩ (fun hHeld => ?_)
       clear hK K
       refine norm_ (a' := ?_) ?_ ?_
       rotate_left
       ·show Act.put _ (some 126) _ = _
        simp only [Act.put, List.setIfInBounds_toArray, List.set_cons_zero, List.set_cons_succ, i64_w, i32_w]
        rfl
       exact norm_ (by simp only [putAll, Act.put, List.setIfInBounds_toArray, List.set_cons_zero, List.set_cons_succ]) (hCont (W8.heap.size, v3, w3.heap.size) _ (regEnd1 HX.out hB0C hB0F hb3 hN3))
      ·skip
       refine value_ (w1 := ?_) (v := ?_) (by rfl) rfl ?_ ?_
       rotate_left 2
       ·go_simp
        constructor
        ·rfl
        ·rfl
       refine hK.out _ _ ⟨(PF.out _ (below_alloc (below_alloc (below_drew1 (Below.refl _ _)) _) _)).1, (PF.out _ (below_alloc (below_alloc (below_drew1 (Below.refl _ _)) _) _)).2.1, (PF.out _ (below_alloc (below_alloc (below_drew1 (Below.refl _ _)) _) _)).2.2⟩ (fun hHeld => ?_)
       clear hK K
       refine norm_ (a' := ?_) ?_ ?_
       rotate_left
       ·show Act.put _ (some 126) _ = _
        simp only [Act.put, List.setIfInBounds_toArray, List.set_cons_zero, List.set_cons_succ, i64_w, i32_w]
        rfl
       refine one_ (i := 3) (N := some 121) #[true, true, true, true, true, true, true, true, true, false, false, false] rfl rfl (by kernel_rfl) (by decide) (fun K hK => ?_)
       refine Kd.N_append_rows_step k32 (w0 := W8) W8.heap.size (by rfl) (.tmp 118) (.tmp 120) 23 32 (.agg #[(.string ⟨#[]⟩), (.slice none 0 0)]) 40 rfl Tryd.underlying23 info32 rfl (by decide) (by omega) (.slice (some ⟨W8.heap.size, 0, none⟩) 0 0) [] l0 (some ⟨bb, oo, none⟩) l0.length c0 (fun k => k ≠ X) (fun k => k < X) rfl rfl (nEmpty ((blk_alloc (heap_alloc_new W8.drew _) _)) (Nat.le_refl _) _ (by omega)) (PFF.out _ (below_alloc (below_alloc (below_drew1 (Below.refl _ _)) _) _)) (fun k hk => ⟨by omega, fun e => by have e' : k = W8.heap.size := Option.some.inj e; omega⟩) (fun k hk => Nat.ne_of_gt (Nat.lt_of_lt_of_le HX.out (Nat.le_trans (below_size (below_alloc (below_alloc (below_drew1 (Below.refl _ _)) _) _)) hk))) (below_alloc (below_alloc (below_drew1 (Below.refl _ _)) _) _) (below_size (below_alloc (below_alloc (below_drew1 (Below.refl _ _)) _) _)) (by simp; omega) ?_
       intro v3 w3 hN3 hb3 hg3 hat3
       refine hK.out _ _ ⟨(PF.out _ (hb3)).1, (PF.out _ (hb3)).2.1, (PF.out _ (hb3)).2.2⟩ (fun hHeld => ?_)
       clear hK K
       refine norm_ (a' := ?_) ?_ ?_
       rotate_left
       ·show Act.put _ (some 121) _ = _
        simp only [Act.put, List.setIfInBounds_toArray, List.set_cons_zero, List.set_cons_succ, i64_w, i32_w]
        rfl
       exact norm_ (by simp only [putAll, Act.put, List.setIfInBounds_toArray, List.set_cons_zero, List.set_cons_succ]) (hCont (W8.heap.size, v3, W8.heap.size + 1) _ (regEnd2 HX.out hB0C hB0F (by have h_ := heap_alloc_new (W8.drew.alloc (.cells #[] 32)) (.cells #[.string d0.f0, .slice B0 d0.f1.length cb0] 32); rwa [World.size_alloc] at h_) (by simp [Value.ownBlock]) (Nat.le_succ _) hg3 hb3 hN3 hat3))
     ·skip
      refine value_ (w1 := ?_) (v := ?_) (by rfl) rfl ?_ ?_
      rotate_left 2
      ·go_simp
       constructor
       ·rfl
       ·rfl
      refine hK.out _ _ ⟨(PF.out _ (below_alloc (below_drew1 (Below.refl _ _)) _)).1, (PF.out _ (below_alloc (below_drew1 (Below.refl _ _)) _)).2.1, (PF.out _ (below_alloc (below_drew1 (Below.refl _ _)) _)).2.2⟩ (fun hHeld => ?_)
      clear hK K
      refine norm_ (a' := ?_) ?_ ?_
      rotate_left
      ·show Act.put _ (some 126) _ = _
       simp only [Act.put, List.setIfInBounds_toArray, List.set_cons_zero, List.set_cons_succ, i64_w, i32_w]
       rfl
      refine one_ (i := 0) (N := some 118) #[true, true, true, false, true, true, true, true, true, false, false, false] rfl rfl (by kernel_rfl) (by decide) (fun K hK => ?_)
      refine value_ (w1 := ?_) (v := ?_) (by rfl) rfl ?_ ?_
      rotate_left 2
      ·go_simp
       constructor
       ·rfl
       ·rfl
      refine hK.out _ _ ⟨(PF.out _ (below_alloc (below_alloc (below_drew1 (Below.refl _ _)) _) _)).1, (PF.out _ (below_alloc (below_alloc (below_drew1 (Below.refl _ _)) _) _)).2.1, (PF.out _ (below_alloc (below_alloc (below_drew1 (Below.refl _ _)) _) _)).2.2⟩ (fun hHeld => ?_)
      clear hK K
      refine norm_ (a' := ?_) ?_ ?_
      rotate_left
      ·show Act.put _ (some 118) _ = _
       simp only [Act.put, List.setIfInBounds_toArray, List.set_cons_zero, List.set_cons_succ, i64_w, i32_w]
       rfl
      refine one_ (i := 3) (N := some 121) #[true, true, true, true, true, true, true, true, true, false, false, false] rfl rfl (by kernel_rfl) (by decide) (fun K hK => ?_)
      refine Kd.N_append_rows_step k32 (w0 := W8) W8.heap.size (by rfl) (.tmp 118) (.tmp 120) 23 32 (.agg #[(.string ⟨#[]⟩), (.slice none 0 0)]) 40 rfl Tryd.underlying23 info32 rfl (by decide) (by omega) (.slice (some ⟨(W8.heap.size + 1), 0, none⟩) 0 0) [] l0 (some ⟨bb, oo, none⟩) l0.length c0 (fun k => k ≠ X) (fun k => k < X) rfl rfl (nEmpty ((by have h_ := heap_alloc_new (W8.drew.alloc (.cells #[.string d0.f0, .slice B0 d0.f1.length cb0] 32)) (.cells #[] 32); rwa [World.size_alloc] at h_)) (by omega) _ (by omega)) (PFF.out _ (below_alloc (below_alloc (below_drew1 (Below.refl _ _)) _) _)) (fun k hk => ⟨by omega, fun e => by have e' : k = (W8.heap.size + 1) := Option.some.inj e; omega⟩) (fun k hk => Nat.ne_of_gt (Nat.lt_of_lt_of_le HX.out (Nat.le_trans (below_size (below_alloc (below_alloc (below_drew1 (Below.refl _ _)) _) _)) hk))) (below_alloc (below_alloc (below_drew1 (Below.refl _ _)) _) _) (below_size (below_alloc (below_alloc (below_drew1 (Below.refl _ _)) _) _)) (by simp; omega) ?_
      intro v3 w3 hN3 hb3 hg3 hat3
      refine hK.out _ _ ⟨(PF.out _ (hb3)).1, (PF.out _ (hb3)).2.1, (PF.out _ (hb3)).2.2⟩ (fun hHeld => ?_)
      clear hK K
      refine norm_ (a' := ?_) ?_ ?_
      rotate_left
      ·show Act.put _ (some 121) _ = _
       simp only [Act.put, List.setIfInBounds_toArray, List.set_cons_zero, List.set_cons_succ, i64_w, i32_w]
       rfl
      exact norm_ (by simp only [putAll, Act.put, List.setIfInBounds_toArray, List.set_cons_zero, List.set_cons_succ]) (hCont (W8.heap.size + 1, v3, W8.heap.size) _ (regEnd2 HX.out hB0C hB0F (blk_alloc (heap_alloc_new W8.drew (.cells #[.string d0.f0, .slice B0 d0.f1.length cb0] 32)) _) (by simp [Value.ownBlock]) (Nat.le_refl _) hg3 hb3 hN3 hat3))
    rintro ⟨g0, v3, g8⟩ w9 hF9
    obtain ⟨hb9, hN9, hFo9, hne9⟩ := hF9
    have hHeld : w9.cell? ⟨P, 0, none⟩ = some (.slice (some ⟨bb, oo, none⟩) l0.length c0) ∧ w9.cell? ⟨bb, oo, none⟩ = some (.string d0.f0) ∧ w9.cell? ⟨bb, oo + 1, none⟩ = some (.slice B0 d0.f1.length cb0) := (PF.out _ hb9)
    refine norm_ (a' := ?_) ?_ ?_
    rotate_left
    ·simp only [putAll, Act.put, List.setIfInBounds_toArray, List.set_cons_zero, List.set_cons_succ]
     rfl
    refine one_ (i := 9) (N := some 127) #[true, true, true, true, true, true, true, true, true, true, false, false] rfl rfl (by kernel_rfl) (by decide) (fun K hK => ?_)
    refine Kd.N_append_rows_step k32 (w0 := W8) W8.heap.size (by rfl) (.tmp 121) (.tmp 126) 23 32 (.agg #[(.string ⟨#[]⟩), (.slice none 0 0)]) 40 rfl Tryd.underlying23 info32 rfl (by decide) (by omega) v3 l0 [d0] (some ⟨g8, 0, none⟩) 1 1 (fun k => k ≠ X) _ rfl rfl hN9 hFo9 (fun k hk => hne9 k hk) (fun k hk => by have h_ := below_size hb9; omega) hb9 (below_size hb9) (by omega) ?_
    intro v4 w4 hN4 hb4 hg4 hat4
    obtain ⟨A4, c4, rfl⟩ := Kd.N_slice hN4
    have hX4 := PX.out w4 hb4
    have hx40 := blk_cell hX4 0
    have hx4f := blk_frozen hX4 0
    refine hK.out _ _ ⟨(PF.out _ (hb4)).1, (PF.out _ (hb4)).2.1, (PF.out _ (hb4)).2.2⟩ (fun hHeld => ?_)
    clear hK K
    refine norm_ (a' := ?_) ?_ ?_
    rotate_left
    ·show Act.put _ (some 127) _ = _
     simp only [Act.put, List.setIfInBounds_toArray, List.set_cons_zero, List.set_cons_succ, i64_w, i32_w]
     rfl
    refine pure_ (i := 10) (N := some 128) (v := ?_) (a' := ?_) #[true, true, true, true, true, true, true, true, true, true, true, false] rfl rfl (by kernel_rfl) (fun _ _ _ h => h) (Or.inl ⟨by rfl, ?_⟩) ?_ ?_
    rotate_left
    ·intro w'
     go_simp
     with_reducible rfl
    rotate_left
    ·simp only [Act.put, List.setIfInBounds_toArray, List.set_cons_zero, List.set_cons_succ, i64_w, i32_w]
     rfl
    refine last_ (i := 11) (N := none) #[true, true, true, true, true, true, true, true, true, true, true, true] rfl rfl (by kernel_rfl) (by decide) (fun K hK => ?_)
    refine skip_ (w1 := ?_) (by rfl) rfl ?_ ?_
    rotate_left
    ·go_simp
     rfl
    refine hK.out _ _ ?_
    clear hK K
    refine done_ (by kernel_rfl) ?_

    have hlen1 : (l0 ++ [d0]).length = l0.length + 1 := by simp
    obtain ⟨W9, hW9⟩ : ∃ W9, W9 = w4.setCell ⟨X, 0, none⟩ (.slice A4 (l0 ++ [d0]).length c4) := ⟨_, rfl⟩
    have hXB := set_block hX4 0 (.slice A4 (l0 ++ [d0]).length c4)
    rw [← hW9] at hXB
    have q0 : W9.cell? ⟨X, 0, none⟩ = some (.slice A4 (l0 ++ [d0]).length c4) := (blk_cell hXB 0).trans (by simp)
    have q1 : W9.cell? ⟨X, 1, none⟩ = some (.slice A1 l1.length c1) := (blk_cell hXB 1).trans (by simp)
    have h3X : W3.heap.size ≤ X := by rw [HXX.out]; exact HB6.out.size
    have hb9' : Below W3.heap.size W3 W9 := by rw [hW9]; exact below_set (HB8.out.trans (hb4.mono HB8.out.size)) h3X
    have hN9' := Kd.N_reads' (Kd.N_far (p := ⟨X, 0, none⟩) hN4 (fun k hk => hk) (.slice A4 (l0 ++ [d0]).length c4))
    rw [← hW9] at hN9'
    have hd0m : d0 ∈ l0 := by rw [HD0.out]; exact List.getElem_mem _
    have hS9 : Small (l0 ++ [d0]) l1 := by
     refine ⟨by rw [hlen1]; omega, HS.out.n1, fun d hd => ?_, HS.out.s1⟩
     rcases List.mem_append.1 hd with h | h
     ·exact HS.out.s0 d h
     ·rw [List.mem_singleton.1 h]
      exact HS.out.s0 d0 hd0m
    have hsch9 : SchAt W9 A4 c4 (l0 ++ [d0]) A1 c1 l1 := by
     have h := HSCH3.out.below hb9'
     exact ⟨hN9'.2.2, hN9'.2.1, h.h1, h.b1⟩
    have hic := idl_calls W9 (HSB.out.mv (HB3.out.trans (hb9'.mono HB3.out.size))) hS9 hsch9
    have hbad := more_bad l0 l1 d0 hd0m
    obtain ⟨r9, hr9⟩ : ∃ r, r = IC (l0 ++ [d0]) l1 := ⟨_, rfl⟩
    rw [← hr9] at hic hbad
    have hrb : (r9 != 0) = true := by simp [hbad]
    have HB9 := Aside0.mk hb9'
    rw [hlen1] at hW9 q0
    have HW9 := Aside0.mk hW9
    have hic' : Calls Tryd.prog 5 #[.agg #[.slice A4 (l0.length + 1) c4, .slice A1 l1.length c1]] W9 (fun e w' => e = .returned (.int .i64 r9) ∧ Below W9.heap.size W9 w') := by rw [← hlen1]; exact hic
    clear hlen1 hXB h3X hb9' hN9' hd0m hS9 hsch9 hic hbad hr9 hW9 hX4 hx40 hx4f hN4 hb4 hg4 hat4 hN9 hFo9 hne9 hb9
    rw [← HW9.out]
    go_wp2_with (go_at_call 5; refine hic'.mono ?_; clear hic'; rintro e W10 ⟨rfl, hb10⟩; have HB10 := Aside0.mk hb10; clear hb10)
    go_ret
    exact ⟨rfl, HB3.out.trans ((HB9.out.trans (HB10.out.mono HB9.out.size)).mono HB3.out.size)⟩
end Go.Proofs.YtjeipkfeihahdaaDoor
