/- A drawn schema, walked. -/
import Derived.Test.YtjeipkfeihahdaaDoorStubSchDraw
namespace Go.Proofs.YtjeipkfeihahdaaDoor
set_option linter.unusedVariables false
set_option linter.unusedSimpArgs false
open Go.RowKit Go.Proofs.YtjeipkfeihahdaaDoor.P Go.Proofs.YtjeipkfeihahdaaDoor.Lem Go.Proofs.YtjeipkfeihahdaaDoorW.PrintWords Go.Proofs.YtjeipkfeihahdaaDoorW.PrintLast Go.Proofs.YtjeipkfeihahdaaDoorW.PrintMore
abbrev bases0 : List ByteArray := [⟨#[66, 111, 111, 108]⟩, ⟨#[85, 56]⟩, ⟨#[85, 49, 54]⟩, ⟨#[85, 51, 50]⟩, ⟨#[73, 54, 52]⟩, ⟨#[84, 101, 120, 116]⟩]
abbrev zSch : Obj := .cells #[.slice none 0 0, .slice none 0 0] 26
theorem GS.start {w0 w W : World} {g m : Nat} {vb : Value} {lb : List ByteArray} (hI : Rdr w0 w g m) (hB : Below w0.heap.size w0 w) (hb : Below ((w.alloc zSch).alloc zSch).heap.size ((w.alloc zSch).alloc zSch) W) (hR : Kd.string.R 9 W ((w.alloc zSch).alloc zSch).heap.size (fun _ => True) vb lb) :
  GS w0 w W g m (w.alloc zSch).heap.size w.heap.size (.slice none 0 0) (.slice none 0 0) (.slice none 0 0) (.slice none 0 0) vb [] [] lb := by
 have hb2 : Below w.heap.size w W := (below_alloc (below_alloc (Below.refl _ _) zSch) zSch).trans (hb.mono (by simp only [World.size_alloc]; omega))
 have hr : ((w.alloc zSch).alloc zSch).heap[w.heap.size]? = some zSch := blk_alloc (heap_alloc_new w zSch) _
 have hs : ((w.alloc zSch).alloc zSch).heap[(w.alloc zSch).heap.size]? = some zSch := heap_alloc_new _ _
 exact ⟨hI.below hb2, hB.trans (hb2.mono hB.size), KeepBut.of_below hb2 g none, hB.size, (hb.block _ (blk_lt hs)).trans hs, (hb.block _ (blk_lt hr)).trans hr, by simp only [World.size_alloc]; omega, Nat.le_refl _, by simp only [World.size_alloc]; omega, Kd.R_nil _ _ _ _ _, Kd.R_nil _ _ _ _ _, Kd.R_lower hR (by simp only [World.size_alloc]; omega)⟩
set_option maxHeartbeats 4000000 in
set_option maxRecDepth 100000 in
theorem schemax (w0 w : World) (g m : Nat) (hI : Rdr w0 w g m) (hB : Below w0.heap.size w0 w) (hm : m ≤ 700000) :
  Calls Tryd.prog 25 #[.pointer (some ⟨g, 0, none⟩)] w fun e w' => ∃ v0 v1 us0 us1, e = .returned (.agg #[v0, v1]) ∧ 1 ≤ us0.length ∧ us0.length ≤ 2 ∧ us1.length ≤ 1 ∧ kSx.R 32 w' w.heap.size (fun _ => True) v0 us0 ∧ kEx.R 65 w' w.heap.size (fun _ => True) v1 us1 ∧ Rdr w0 w' g (m + 200) ∧ Below w0.heap.size w0 w' ∧ KeepBut w w' g none := by
 have HI := Aside0.mk hI
 have HB := Aside0.mk hB
 clear hI hB
 go_enter Tryd.func25, Tryd.ntmps25
 go_upto_region 3 with ((with_reducible refine gate_dst (N := 6) rfl ?_); refine Kd.R_lit Kd.string _ 9 ?hg (N := 6) ?hd (xs := bases0) (inner := [.string ⟨#[66, 111, 111, 108]⟩, .string ⟨#[85, 56]⟩, .string ⟨#[85, 49, 54]⟩, .string ⟨#[85, 51, 50]⟩, .string ⟨#[73, 54, 52]⟩, .string ⟨#[84, 101, 120, 116]⟩]) (ok := fun _ => True) (okp := fun _ => True) ?hr ?hp (fun _ hk => hk) trivial (Below.refl _ _) (Nat.le_refl _) (by simp) ?_; (case hd => rfl); (case hg => rfl); (case hr => first | (go_simp; done) | (go_simp; rfl)); (case hp => exact (Reps.one rfl (Reps.one rfl (Reps.one rfl (Reps.one rfl (Reps.one rfl (Reps.one rfl (Reps.none _ _)))))))); intro vb W1 hR hb hg_ hnew_; have HR := Aside0.mk hR; have HBB := Aside0.mk hb; clear hR hb hg_ hnew_)
 have G1 := Aside0.mk (GS.start HI.out HB.out HBB.out HR.out)
 have hsz : (w.alloc zSch).heap.size = w.heap.size + 1 := by simp [World.size_alloc]
 rw [hsz] at G1
 clear hsz HI HB HR HBB
 obtain ⟨S, hS⟩ : ∃ S, S = w.heap.size + 1 := ⟨_, rfl⟩
 obtain ⟨R, hR⟩ : ∃ R, R = w.heap.size := ⟨_, rfl⟩
 rw [← hS, ← hR] at G1
 rw [← hS, ← hR]
 clear hS hR
 obtain ⟨lb, hlb⟩ : ∃ lb, lb = bases0 := ⟨_, rfl⟩
 rw [← hlb] at G1
 have HLB := Aside0.mk (show lb ≠ [] ∧ lb.length ≤ 6 ∧ ∀ s ∈ lb, s.size ≤ 20 from by subst hlb; exact ⟨by simp, by simp, by decide⟩)
 clear hlb
 go_upto_region 6 with (first | (go_at_call 26; refine (pickx w0 W1 g m 2 G1.out.rd G1.out.bw (by omega) (by omega)).mono ?_; rintro e W2 ⟨p, rfl, _, _, hI, hb, hk⟩; have G2 := Aside0.mk (G1.out.call hI hb hk); clear hI hb hk; have x2 := (blk_cell G2.out.bs 1).trans rfl; have f2 := blk_frozen G2.out.bs 1; by_cases hp : p = 0; skip; rotate_left; (obtain ⟨WZ, rfl⟩ : ∃ W, W = W2 := ⟨_, rfl⟩; obtain ⟨vz, rfl⟩ : ∃ v, v = vb := ⟨_, rfl⟩; obtain ⟨lz, rfl⟩ : ∃ l, l = lb := ⟨_, rfl⟩; have GZ := Aside0.mk (show ∃ ve uz, List.length uz ≤ 1 ∧ GS w0 w WZ g (m + 1) S R (.slice none 0 0) ve (.slice none 0 0) ve vz [] uz lz from ⟨_, [], by simp, G2.out⟩); have HLZ := Aside0.mk (show lz ≠ [] ∧ lz.length ≤ 10 ∧ ∀ s ∈ lz, s.size ≤ 20 from ⟨HLB.out.1, by have := HLB.out.2.1; omega, HLB.out.2.2⟩); clear G1 G2 x2 f2 HLB); rotate_left) | ((with_reducible refine gate_dst (N := 12) rfl ?_); refine Kd.R_lit Kd.string _ 9 ?hg (N := 12) ?hd (xs := [(⟨#[108, 111, 119]⟩ : ByteArray), (⟨#[109, 105, 100]⟩ : ByteArray), (⟨#[104, 105, 103, 104]⟩ : ByteArray)]) (inner := [.string (⟨#[108, 111, 119]⟩ : ByteArray), .string (⟨#[109, 105, 100]⟩ : ByteArray), .string (⟨#[104, 105, 103, 104]⟩ : ByteArray)]) (ok := fun k => some k ≠ vb.ownBlock) (okp := fun _ => False) ?hr ?hp (fun _ hk => hk.elim) (fun e => Nat.lt_irrefl _ (Kd.R_lt G2.out.rb _ e.symm)) (Below.refl _ _) (Nat.le_refl _) (by simp) ?_; (case hd => rfl); (case hg => rfl); (case hr => first | (go_simp; done) | (go_simp; rfl)); (case hp => exact (Reps.one rfl (Reps.one rfl (Reps.one rfl (Reps.none _ _))))); intro vw W3 hRw hb3 _ _; obtain ⟨AW, cW, rfl⟩ := Kd.R_slice hRw; have G3 := Aside0.mk (G2.out.below hb3); have HW := Aside0.mk (Kd.R_lower hRw G2.out.kp.1); have x3 := (blk_cell G3.out.bs 1).trans rfl; have f3 := blk_frozen G3.out.bs 1; clear hRw hb3) | ((with_reducible refine gate_builtin (b := .append) (xs := #[.tmp 11, .tmp 14]) rfl ?_); at_builtin; refine enum_append rfl _ _ rfl rfl rfl G3.out (nm := ⟨#[84, 111, 110, 101]⟩) ⟨by decide, by decide, by decide⟩ HW.out (by decide) ?_; intro ve W4 hG4 _; obtain ⟨AE, cE, rfl⟩ := Kd.R_slice hG4.re; have G4 := Aside0.mk hG4; have x4 := (blk_cell G4.out.bs 1).trans rfl; have f4 := blk_frozen G4.out.bs 1; clear hG4) | ((with_reducible refine gate_builtin (b := .append) (xs := #[.tmp 17, .tmp 18]) rfl ?_); at_builtin; refine text_append rfl _ _ rfl rfl (by first | rfl | (go_simp; done) | (go_simp; rfl)) (G4.out.put1 _) ⟨#[84, 111, 110, 101]⟩ (by have := HLB.out.2.1; omega) ?_; intro vz WZ hGZ; obtain ⟨lz, hlz⟩ : ∃ l, l = lb ++ [(⟨#[84, 111, 110, 101]⟩ : ByteArray)] := ⟨_, rfl⟩; rw [← hlz] at hGZ; have GZ := Aside0.mk (show ∃ ve uz, List.length uz ≤ 1 ∧ GS w0 w WZ g (m + 1) S R (.slice none 0 0) ve (.slice none 0 0) ve vz [] uz lz from ⟨_, _, by decide, hGZ⟩); have HLZ := Aside0.mk (show lz ≠ [] ∧ lz.length ≤ 10 ∧ ∀ s ∈ lz, s.size ≤ 20 from by rw [hlz]; exact ⟨by simp, by have := HLB.out.2.1; simp only [List.length_append, List.length_singleton]; omega, fun s hs => by rcases List.mem_append.1 hs with h | h; exact HLB.out.2.2 s h; rw [List.mem_singleton.1 h]; decide⟩); clear hGZ hlz G1 G2 G3 G4 HLB HW x2 f2 x3 f3 x4 f4))
 all_goals (
  obtain ⟨ve, uz, huz, hGZ⟩ := GZ.out
  have GY := Aside0.mk hGZ
  clear hGZ GZ
  obtain ⟨v0, hv0⟩ : ∃ v0, v0 = Value.slice none 0 0 := ⟨_, rfl⟩
  obtain ⟨AE, cE, rfl⟩ := Kd.R_slice GY.out.re
  obtain ⟨AB, cB, rfl⟩ := Kd.R_slice GY.out.rb
  go_upto_region 7 with (go_at_call 26; refine (pickx w0 WZ g (m + 1) 2 GY.out.rd GY.out.bw (by omega) (by omega)).mono ?_; rintro e W3 ⟨p3, rfl, _, _, hI, hb, hk⟩; have G3 := Aside0.mk (GY.out.call hI hb hk); clear hI hb hk GY; by_cases hp3 : p3 = 0)
  ·skip
   obtain ⟨lb, hlb⟩ : ∃ l, l = lz := ⟨_, rfl⟩
   rw [← hlb] at G3
   have HLB := Aside0.mk (show lb ≠ [] ∧ lb.length ≤ 10 ∧ ∀ s ∈ lb, s.size ≤ 20 from by rw [hlb]; exact HLZ.out)
   have hlbn : lz.length = lb.length := by rw [hlb]
   rw [hlbn]
   clear hlbn hlb HLZ
   obtain ⟨mm, hmm⟩ : ∃ mm, mm = m + 1 + 1 := ⟨_, rfl⟩
   rw [← hmm, ← hv0] at G3
   have G5 := Aside0.mk (GS.below G3.out (below_drew1 (Below.refl _ _)))
   clear G3
   have x5 := (blk_cell G5.out.bs 0).trans rfl
   refine start_ (n := 10) (S := fun w' => w'.cell? ⟨S, 0, none⟩ = some v0) (ds := [9]) #[false, false, false, false, false, false, false, false, false, false] (by kernel_rfl) rfl rfl (x5) (fun hHeld => ?_)
   refine pure_ (i := 0) (N := some 23) (v := ?_) (a' := ?_) #[true, false, false, false, false, false, false, false, false, false] rfl rfl (by kernel_rfl) (fun _ _ _ h => h) (Or.inl ⟨by rfl, ?_⟩) ?_ ?_
   rotate_left
   ·intro w'
    go_simp
    with_reducible rfl
   rotate_left
   ·simp only [Act.put, List.setIfInBounds_toArray, List.set_cons_zero, List.set_cons_succ, i64_w, i32_w]
    rfl
   refine pure_ (i := 2) (N := some 25) (v := ?_) (a' := ?_) #[true, false, true, false, false, false, false, false, false, false] rfl rfl (by kernel_rfl) (fun _ _ _ h => h) (Or.inl ⟨by rfl, ?_⟩) ?_ ?_
   rotate_left
   ·intro w'
    go_simp
    with_reducible rfl
   rotate_left
   ·simp only [Act.put, List.setIfInBounds_toArray, List.set_cons_zero, List.set_cons_succ, i64_w, i32_w]
    rfl
   refine pure_ (i := 3) (N := some 26) (v := ?_) (a' := ?_) #[true, false, true, true, false, false, false, false, false, false] rfl rfl (by kernel_rfl) (fun _ _ _ h => h) (Or.inl ⟨by rfl, ?_⟩) ?_ ?_
   rotate_left
   ·intro w'
    go_simp
    with_reducible rfl
   rotate_left
   ·simp only [Act.put, List.setIfInBounds_toArray, List.set_cons_zero, List.set_cons_succ, i64_w, i32_w]
    rfl
   refine take_ (i := 1) (N := some 24) (v := ?_) (a' := ?_) #[true, true, true, true, false, false, false, false, false, false] rfl rfl (by kernel_rfl) (fun _ _ _ h => h) (Or.inl ⟨by rfl, ?_⟩) hHeld ?_ ?_
   rotate_left
   ·intro w' s0
    go_simp
    with_reducible rfl
   rotate_left
   ·simp only [Act.put, List.setIfInBounds_toArray, List.set_cons_zero, List.set_cons_succ, i64_w, i32_w]
    rfl
   refine one_ (i := 4) (N := some 27) #[true, true, true, true, true, false, false, false, false, false] rfl rfl (by kernel_rfl) (by decide) (fun K hK => ?_)
   refine goes_ Tryd.func51 (by kernel_rfl) rfl #[.pointer (some ⟨g, 0, none⟩), .slice AB lb.length cB] (by rfl) rfl rfl (by simp only [List.map_toArray, List.map_cons, List.map_nil]; rfl) ?_
   with_reducible refine (declsx w0 _ g mm AB cB lb G5.out.rd G5.out.bw (by omega) HLB.out.1 (Nat.le_trans HLB.out.2.1 (by decide)) HLB.out.2.2 (Kd.R_reads' G5.out.rb).2.2 (Kd.R_reads' G5.out.rb).2.1 (far_slice (G5.out.rd.ne G5.out.rb (by decide)))).mono ?_
   rintro e W6 ⟨vd, ud, rfl, hd1, hd5, hD, hI, hB, hk⟩
   refine ⟨_, rfl, ?_⟩
   obtain ⟨AD, cd, rfl⟩ := Kd.R_slice hD
   have G6 := Aside0.mk (G5.out.call hI hB hk)
   have HD := Aside0.mk (Kd.R_lower hD G5.out.kp.1)
   have x6 := (blk_cell G6.out.bs 0).trans rfl
   clear hI hB hk hD
   refine hK.out _ _ (x6) (fun hHeld => ?_)
   clear hK K
   refine norm_ (a' := ?_) ?_ ?_
   rotate_left
   ·show Act.put _ (some 27) _ = _
    simp only [Act.put, List.setIfInBounds_toArray, List.set_cons_zero, List.set_cons_succ, i64_w, i32_w]
    rfl
   refine pure_ (i := 5) (N := some 28) (v := ?_) (a' := ?_) #[true, true, true, true, true, true, false, false, false, false] rfl rfl (by kernel_rfl) (fun _ _ _ h => h) (Or.inl ⟨by rfl, ?_⟩) ?_ ?_
   rotate_left
   ·intro w'
    go_simp
    with_reducible rfl
   rotate_left
   ·simp only [Act.put, List.setIfInBounds_toArray, List.set_cons_zero, List.set_cons_succ, i64_w, i32_w]
    rfl
   refine one_ (i := 6) (N := some 29) #[true, true, true, true, true, true, true, false, false, false] rfl rfl (by kernel_rfl) (by decide) (fun K hK => ?_)
   refine value_ (w1 := ?_) (v := ?_) (by rfl) rfl ?_ ?_
   rotate_left 2
   ·go_simp
    constructor
    ·rfl
    ·rfl
   refine hK.out _ _ (pw_cell_below (below_alloc (Below.refl _ _) _) x6) (fun hHeld => ?_)
   clear hK K
   refine norm_ (a' := ?_) ?_ ?_
   rotate_left
   ·show Act.put _ (some 29) _ = _
    simp only [Act.put, List.setIfInBounds_toArray, List.set_cons_zero, List.set_cons_succ, i64_w, i32_w]
    rfl
   refine one_ (i := 7) (N := some 30) #[true, true, true, true, true, true, true, true, false, false] rfl rfl (by kernel_rfl) (by decide) (fun K hK => ?_)
   refine struct_append (by rfl) (.tmp 24) (.tmp 29) rfl (by first | rfl | (go_simp; done) | (go_simp; rfl)) (by first | rfl | (go_simp; done) | (go_simp; rfl)) G6.out (nm := (⟨#[80, 97, 114, 116]⟩ : ByteArray)) (by decide) HD.out (by omega) (by omega) (by first | omega | decide) ?_
   intro v7 W7 hG7 hb7
   obtain ⟨A7, n7, c7, rfl⟩ : ∃ A n c, v7 = Value.slice A n c := by obtain ⟨A, c, e⟩ := Kd.R_slice hG7.rs; exact ⟨A, _, c, e⟩
   have G7 := Aside0.mk hG7
   have G8 := Aside0.mk (hG7.put0 (.slice A7 n7 c7))
   have x7 := (blk_cell G7.out.bs 0).trans rfl
   have f7 := blk_frozen G7.out.bs 0
   clear hG7 hb7
   refine hK.out _ _ (x7) (fun hHeld => ?_)
   clear hK K
   refine norm_ (a' := ?_) ?_ ?_
   rotate_left
   ·show Act.put _ (some 30) _ = _
    simp only [Act.put, List.setIfInBounds_toArray, List.set_cons_zero, List.set_cons_succ, i64_w, i32_w]
    rfl
   refine pure_ (i := 8) (N := some 31) (v := ?_) (a' := ?_) #[true, true, true, true, true, true, true, true, true, false] rfl rfl (by kernel_rfl) (fun _ _ _ h => h) (Or.inl ⟨by rfl, ?_⟩) ?_ ?_
   rotate_left
   ·intro w'
    go_simp
    with_reducible rfl
   rotate_left
   ·simp only [Act.put, List.setIfInBounds_toArray, List.set_cons_zero, List.set_cons_succ, i64_w, i32_w]
    rfl
   refine last_ (i := 9) (N := none) #[true, true, true, true, true, true, true, true, true, true] rfl rfl (by kernel_rfl) (by decide) (fun K hK => ?_)
   refine skip_ (w1 := ?_) (by rfl) rfl ?_ ?_
   rotate_left
   ·go_simp
    rfl
   refine hK.out _ _ ?_
   clear hK K
   refine done_ (by kernel_rfl) ?_
   go_upto_region 9 with (first | ((with_reducible refine gate_dst (N := 33) rfl ?_); refine Kd.R_lit Kd.string _ 9 ?hg (N := 33) ?hd (xs := [(⟨#[80, 97, 114, 116]⟩ : ByteArray), (⟨#[80, 97, 114, 116]⟩ : ByteArray)]) (inner := [.string (⟨#[80, 97, 114, 116]⟩ : ByteArray), .string (⟨#[80, 97, 114, 116]⟩ : ByteArray)]) (ok := fun _ => True) (okp := fun _ => False) ?hr ?hp (fun _ hk => hk.elim) trivial (Below.refl _ _) (Nat.le_refl _) (by simp) ?_; (case hd => rfl); (case hg => rfl); (case hr => first | (go_simp; done) | (go_simp; rfl)); (case hp => exact (Reps.one rfl (Reps.one rfl (Reps.none _ _)))); intro v33 W8 hR8 hb8 _ _; obtain ⟨A33, c33, rfl⟩ := Kd.R_slice hR8; have G10 := Aside0.mk (GS.below G8.out hb8); have HR8 := Aside0.mk hR8; clear hR8 hb8) | ((with_reducible refine gate_builtin (b := .append) (xs := #[.tmp 32, .tmp 33]) rfl ?_); at_builtin; refine texts_append rfl _ _ rfl rfl rfl G10.out [(⟨#[80, 97, 114, 116]⟩ : ByteArray), (⟨#[80, 97, 114, 116]⟩ : ByteArray)] rfl (Kd.R_reads' HR8.out).2.2 (by have := HLB.out.2.1; omega) ?_; intro v9 W9 hG9; have G9 := Aside0.mk hG9; clear hG9))
   obtain ⟨AB, cB, rfl⟩ := Kd.R_slice G9.out.rb
   obtain ⟨lb, hlb⟩ : ∃ l, l = lb ++ [(⟨#[80, 97, 114, 116]⟩ : ByteArray), (⟨#[80, 97, 114, 116]⟩ : ByteArray)] := ⟨_, rfl⟩
   rw [← hlb] at G9
   rw [← hlb]
   have HLB := Aside0.mk (show lb ≠ [] ∧ lb.length ≤ 12 ∧ ∀ s ∈ lb, s.size ≤ 20 from by rw [hlb]; exact ⟨by simp, by have := HLB.out.2.1; simp only [List.length_append, List.length_cons, List.length_nil]; omega, fun s hs => by rcases List.mem_append.1 hs with h | h; exact HLB.out.2.2 s h; simp only [List.mem_cons, List.not_mem_nil, or_false, or_self] at h; rw [h]; decide⟩)
   clear hlb
   obtain ⟨mm, hmm2⟩ : ∃ m2, m2 = mm + 60 := ⟨_, rfl⟩
   rw [← hmm2] at G9
   obtain ⟨v0, hv0⟩ : ∃ v, v = Value.slice A7 n7 c7 := ⟨_, rfl⟩
   rw [← hv0] at G9
   clear G5 G6 G7 G8 G10 x5 x6 x7 f7 HD HR8
   have G5 := Aside0.mk (GS.below G9.out (below_drew1 (Below.refl _ _)))
   clear G9
   have x5 := (blk_cell G5.out.bs 0).trans rfl
   refine start_ (n := 10) (S := fun w' => w'.cell? ⟨S, 0, none⟩ = some v0) (ds := [9]) #[false, false, false, false, false, false, false, false, false, false] (by kernel_rfl) rfl rfl (x5) (fun hHeld => ?_)
   refine pure_ (i := 0) (N := some 35) (v := ?_) (a' := ?_) #[true, false, false, false, false, false, false, false, false, false] rfl rfl (by kernel_rfl) (fun _ _ _ h => h) (Or.inl ⟨by rfl, ?_⟩) ?_ ?_
   rotate_left
   ·intro w'
    go_simp
    with_reducible rfl
   rotate_left
   ·simp only [Act.put, List.setIfInBounds_toArray, List.set_cons_zero, List.set_cons_succ, i64_w, i32_w]
    rfl
   refine pure_ (i := 2) (N := some 37) (v := ?_) (a' := ?_) #[true, false, true, false, false, false, false, false, false, false] rfl rfl (by kernel_rfl) (fun _ _ _ h => h) (Or.inl ⟨by rfl, ?_⟩) ?_ ?_
   rotate_left
   ·intro w'
    go_simp
    with_reducible rfl
   rotate_left
   ·simp only [Act.put, List.setIfInBounds_toArray, List.set_cons_zero, List.set_cons_succ, i64_w, i32_w]
    rfl
   refine pure_ (i := 3) (N := some 38) (v := ?_) (a' := ?_) #[true, false, true, true, false, false, false, false, false, false] rfl rfl (by kernel_rfl) (fun _ _ _ h => h) (Or.inl ⟨by rfl, ?_⟩) ?_ ?_
   rotate_left
   ·intro w'
    go_simp
    with_reducible rfl
   rotate_left
   ·simp only [Act.put, List.setIfInBounds_toArray, List.set_cons_zero, List.set_cons_succ, i64_w, i32_w]
    rfl
   refine take_ (i := 1) (N := some 36) (v := ?_) (a' := ?_) #[true, true, true, true, false, false, false, false, false, false] rfl rfl (by kernel_rfl) (fun _ _ _ h => h) (Or.inl ⟨by rfl, ?_⟩) hHeld ?_ ?_
   rotate_left
   ·intro w' s0
    go_simp
    with_reducible rfl
   rotate_left
   ·simp only [Act.put, List.setIfInBounds_toArray, List.set_cons_zero, List.set_cons_succ, i64_w, i32_w]
    rfl
   refine one_ (i := 4) (N := some 39) #[true, true, true, true, true, false, false, false, false, false] rfl rfl (by kernel_rfl) (by decide) (fun K hK => ?_)
   refine goes_ Tryd.func51 (by kernel_rfl) rfl #[.pointer (some ⟨g, 0, none⟩), .slice AB lb.length cB] (by rfl) rfl rfl (by simp only [List.map_toArray, List.map_cons, List.map_nil]; rfl) ?_
   with_reducible refine (declsx w0 _ g mm AB cB lb G5.out.rd G5.out.bw (by omega) HLB.out.1 (Nat.le_trans HLB.out.2.1 (by decide)) HLB.out.2.2 (Kd.R_reads' G5.out.rb).2.2 (Kd.R_reads' G5.out.rb).2.1 (far_slice (G5.out.rd.ne G5.out.rb (by decide)))).mono ?_
   rintro e W6 ⟨vd, ud, rfl, hd1, hd5, hD, hI, hB, hk⟩
   refine ⟨_, rfl, ?_⟩
   obtain ⟨AD, cd, rfl⟩ := Kd.R_slice hD
   have G6 := Aside0.mk (G5.out.call hI hB hk)
   have HD := Aside0.mk (Kd.R_lower hD G5.out.kp.1)
   have x6 := (blk_cell G6.out.bs 0).trans rfl
   clear hI hB hk hD
   refine hK.out _ _ (x6) (fun hHeld => ?_)
   clear hK K
   refine norm_ (a' := ?_) ?_ ?_
   rotate_left
   ·show Act.put _ (some 39) _ = _
    simp only [Act.put, List.setIfInBounds_toArray, List.set_cons_zero, List.set_cons_succ, i64_w, i32_w]
    rfl
   refine pure_ (i := 5) (N := some 40) (v := ?_) (a' := ?_) #[true, true, true, true, true, true, false, false, false, false] rfl rfl (by kernel_rfl) (fun _ _ _ h => h) (Or.inl ⟨by rfl, ?_⟩) ?_ ?_
   rotate_left
   ·intro w'
    go_simp
    with_reducible rfl
   rotate_left
   ·simp only [Act.put, List.setIfInBounds_toArray, List.set_cons_zero, List.set_cons_succ, i64_w, i32_w]
    rfl
   refine one_ (i := 6) (N := some 41) #[true, true, true, true, true, true, true, false, false, false] rfl rfl (by kernel_rfl) (by decide) (fun K hK => ?_)
   refine value_ (w1 := ?_) (v := ?_) (by rfl) rfl ?_ ?_
   rotate_left 2
   ·go_simp
    constructor
    ·rfl
    ·rfl
   refine hK.out _ _ (pw_cell_below (below_alloc (Below.refl _ _) _) x6) (fun hHeld => ?_)
   clear hK K
   refine norm_ (a' := ?_) ?_ ?_
   rotate_left
   ·show Act.put _ (some 41) _ = _
    simp only [Act.put, List.setIfInBounds_toArray, List.set_cons_zero, List.set_cons_succ, i64_w, i32_w]
    rfl
   refine one_ (i := 7) (N := some 42) #[true, true, true, true, true, true, true, true, false, false] rfl rfl (by kernel_rfl) (by decide) (fun K hK => ?_)
   refine struct_append (by rfl) (.tmp 36) (.tmp 41) rfl (by first | rfl | (go_simp; done) | (go_simp; rfl)) (by first | rfl | (go_simp; done) | (go_simp; rfl)) G6.out (nm := (⟨#[77, 97, 105, 110]⟩ : ByteArray)) (by decide) HD.out (by omega) (by omega) (by first | omega | decide) ?_
   intro v7 W7 hG7 hb7
   obtain ⟨A7, n7, c7, rfl⟩ : ∃ A n c, v7 = Value.slice A n c := by obtain ⟨A, c, e⟩ := Kd.R_slice hG7.rs; exact ⟨A, _, c, e⟩
   have G7 := Aside0.mk hG7
   have G8 := Aside0.mk (hG7.put0 (.slice A7 n7 c7))
   have x7 := (blk_cell G7.out.bs 0).trans rfl
   have f7 := blk_frozen G7.out.bs 0
   clear hG7 hb7
   refine hK.out _ _ (x7) (fun hHeld => ?_)
   clear hK K
   refine norm_ (a' := ?_) ?_ ?_
   rotate_left
   ·show Act.put _ (some 42) _ = _
    simp only [Act.put, List.setIfInBounds_toArray, List.set_cons_zero, List.set_cons_succ, i64_w, i32_w]
    rfl
   refine pure_ (i := 8) (N := some 43) (v := ?_) (a' := ?_) #[true, true, true, true, true, true, true, true, true, false] rfl rfl (by kernel_rfl) (fun _ _ _ h => h) (Or.inl ⟨by rfl, ?_⟩) ?_ ?_
   rotate_left
   ·intro w'
    go_simp
    with_reducible rfl
   rotate_left
   ·simp only [Act.put, List.setIfInBounds_toArray, List.set_cons_zero, List.set_cons_succ, i64_w, i32_w]
    rfl
   refine last_ (i := 9) (N := none) #[true, true, true, true, true, true, true, true, true, true] rfl rfl (by kernel_rfl) (by decide) (fun K hK => ?_)
   refine skip_ (w1 := ?_) (by rfl) rfl ?_ ?_
   rotate_left
   ·go_simp
    rfl
   refine hK.out _ _ ?_
   clear hK K
   refine done_ (by kernel_rfl) ?_
   have y0 := (blk_cell G8.out.bs 0).trans rfl
   have y1 := (blk_cell G8.out.bs 1).trans rfl
   have y2 := (blk_cell G8.out.br 0).trans rfl
   have y3 := (blk_cell G8.out.br 1).trans rfl
   have y4 := blk_frozen G8.out.br 0
   have y5 := blk_frozen G8.out.br 1
   clear x7 f7 x6 x5
   go_wp2_with fail
   refine bodyPost_ret (results_cell_row rfl _ _ R 26 #[.slice A7 n7 c7, .slice AE uz.length cE] (0, 0) _ rfl (blk_put (blk_put G8.out.br 0 _ rfl) 1 _ rfl) Tryd.underlying26 rfl (by kernel_rfl)) rfl ?_
   obtain ⟨q1, q2, q3, q4, q5⟩ := G8.out.putR (.slice A7 n7 c7) (.slice AE uz.length cE)
   exact ⟨_, _, _, _, rfl, by simp, by simp, huz, q1, q2, q3.le (by omega), q4, q5⟩
  ·skip
   obtain ⟨lb, hlb⟩ : ∃ l, l = lz := ⟨_, rfl⟩
   rw [← hlb] at G3
   have HLB := Aside0.mk (show lb ≠ [] ∧ lb.length ≤ 10 ∧ ∀ s ∈ lb, s.size ≤ 20 from by rw [hlb]; exact HLZ.out)
   have hlbn : lz.length = lb.length := by rw [hlb]
   rw [hlbn]
   clear hlbn hlb HLZ
   obtain ⟨mm, hmm⟩ : ∃ mm, mm = m + 1 + 1 := ⟨_, rfl⟩
   rw [← hmm, ← hv0] at G3
   have G5 := Aside0.mk (GS.below G3.out (below_drew1 (Below.refl _ _)))
   clear G3
   have x5 := (blk_cell G5.out.bs 0).trans rfl
   refine start_ (n := 10) (S := fun w' => w'.cell? ⟨S, 0, none⟩ = some v0) (ds := [9]) #[false, false, false, false, false, false, false, false, false, false] (by kernel_rfl) rfl rfl (x5) (fun hHeld => ?_)
   refine pure_ (i := 0) (N := some 35) (v := ?_) (a' := ?_) #[true, false, false, false, false, false, false, false, false, false] rfl rfl (by kernel_rfl) (fun _ _ _ h => h) (Or.inl ⟨by rfl, ?_⟩) ?_ ?_
   rotate_left
   ·intro w'
    go_simp
    with_reducible rfl
   rotate_left
   ·simp only [Act.put, List.setIfInBounds_toArray, List.set_cons_zero, List.set_cons_succ, i64_w, i32_w]
    rfl
   refine pure_ (i := 2) (N := some 37) (v := ?_) (a' := ?_) #[true, false, true, false, false, false, false, false, false, false] rfl rfl (by kernel_rfl) (fun _ _ _ h => h) (Or.inl ⟨by rfl, ?_⟩) ?_ ?_
   rotate_left
   ·intro w'
    go_simp
    with_reducible rfl
   rotate_left
   ·simp only [Act.put, List.setIfInBounds_toArray, List.set_cons_zero, List.set_cons_succ, i64_w, i32_w]
    rfl
   refine pure_ (i := 3) (N := some 38) (v := ?_) (a' := ?_) #[true, false, true, true, false, false, false, false, false, false] rfl rfl (by kernel_rfl) (fun _ _ _ h => h) (Or.inl ⟨by rfl, ?_⟩) ?_ ?_
   rotate_left
   ·intro w'
    go_simp
    with_reducible rfl
   rotate_left
   ·simp only [Act.put, List.setIfInBounds_toArray, List.set_cons_zero, List.set_cons_succ, i64_w, i32_w]
    rfl
   refine take_ (i := 1) (N := some 36) (v := ?_) (a' := ?_) #[true, true, true, true, false, false, false, false, false, false] rfl rfl (by kernel_rfl) (fun _ _ _ h => h) (Or.inl ⟨by rfl, ?_⟩) hHeld ?_ ?_
   rotate_left
   ·intro w' s0
    go_simp
    with_reducible rfl
   rotate_left
   ·simp only [Act.put, List.setIfInBounds_toArray, List.set_cons_zero, List.set_cons_succ, i64_w, i32_w]
    rfl
   refine one_ (i := 4) (N := some 39) #[true, true, true, true, true, false, false, false, false, false] rfl rfl (by kernel_rfl) (by decide) (fun K hK => ?_)
   refine goes_ Tryd.func51 (by kernel_rfl) rfl #[.pointer (some ⟨g, 0, none⟩), .slice AB lb.length cB] (by rfl) rfl rfl (by simp only [List.map_toArray, List.map_cons, List.map_nil]; rfl) ?_
   with_reducible refine (declsx w0 _ g mm AB cB lb G5.out.rd G5.out.bw (by omega) HLB.out.1 (Nat.le_trans HLB.out.2.1 (by decide)) HLB.out.2.2 (Kd.R_reads' G5.out.rb).2.2 (Kd.R_reads' G5.out.rb).2.1 (far_slice (G5.out.rd.ne G5.out.rb (by decide)))).mono ?_
   rintro e W6 ⟨vd, ud, rfl, hd1, hd5, hD, hI, hB, hk⟩
   refine ⟨_, rfl, ?_⟩
   obtain ⟨AD, cd, rfl⟩ := Kd.R_slice hD
   have G6 := Aside0.mk (G5.out.call hI hB hk)
   have HD := Aside0.mk (Kd.R_lower hD G5.out.kp.1)
   have x6 := (blk_cell G6.out.bs 0).trans rfl
   clear hI hB hk hD
   refine hK.out _ _ (x6) (fun hHeld => ?_)
   clear hK K
   refine norm_ (a' := ?_) ?_ ?_
   rotate_left
   ·show Act.put _ (some 39) _ = _
    simp only [Act.put, List.setIfInBounds_toArray, List.set_cons_zero, List.set_cons_succ, i64_w, i32_w]
    rfl
   refine pure_ (i := 5) (N := some 40) (v := ?_) (a' := ?_) #[true, true, true, true, true, true, false, false, false, false] rfl rfl (by kernel_rfl) (fun _ _ _ h => h) (Or.inl ⟨by rfl, ?_⟩) ?_ ?_
   rotate_left
   ·intro w'
    go_simp
    with_reducible rfl
   rotate_left
   ·simp only [Act.put, List.setIfInBounds_toArray, List.set_cons_zero, List.set_cons_succ, i64_w, i32_w]
    rfl
   refine one_ (i := 6) (N := some 41) #[true, true, true, true, true, true, true, false, false, false] rfl rfl (by kernel_rfl) (by decide) (fun K hK => ?_)
   refine value_ (w1 := ?_) (v := ?_) (by rfl) rfl ?_ ?_
   rotate_left 2
   ·go_simp
    constructor
    ·rfl
    ·rfl
   refine hK.out _ _ (pw_cell_below (below_alloc (Below.refl _ _) _) x6) (fun hHeld => ?_)
   clear hK K
   refine norm_ (a' := ?_) ?_ ?_
   rotate_left
   ·show Act.put _ (some 41) _ = _
    simp only [Act.put, List.setIfInBounds_toArray, List.set_cons_zero, List.set_cons_succ, i64_w, i32_w]
    rfl
   refine one_ (i := 7) (N := some 42) #[true, true, true, true, true, true, true, true, false, false] rfl rfl (by kernel_rfl) (by decide) (fun K hK => ?_)
   refine struct_append (by rfl) (.tmp 36) (.tmp 41) rfl (by first | rfl | (go_simp; done) | (go_simp; rfl)) (by first | rfl | (go_simp; done) | (go_simp; rfl)) G6.out (nm := (⟨#[77, 97, 105, 110]⟩ : ByteArray)) (by decide) HD.out (by omega) (by omega) (by first | omega | decide) ?_
   intro v7 W7 hG7 hb7
   obtain ⟨A7, n7, c7, rfl⟩ : ∃ A n c, v7 = Value.slice A n c := by obtain ⟨A, c, e⟩ := Kd.R_slice hG7.rs; exact ⟨A, _, c, e⟩
   have G7 := Aside0.mk hG7
   have G8 := Aside0.mk (hG7.put0 (.slice A7 n7 c7))
   have x7 := (blk_cell G7.out.bs 0).trans rfl
   have f7 := blk_frozen G7.out.bs 0
   clear hG7 hb7
   refine hK.out _ _ (x7) (fun hHeld => ?_)
   clear hK K
   refine norm_ (a' := ?_) ?_ ?_
   rotate_left
   ·show Act.put _ (some 42) _ = _
    simp only [Act.put, List.setIfInBounds_toArray, List.set_cons_zero, List.set_cons_succ, i64_w, i32_w]
    rfl
   refine pure_ (i := 8) (N := some 43) (v := ?_) (a' := ?_) #[true, true, true, true, true, true, true, true, true, false] rfl rfl (by kernel_rfl) (fun _ _ _ h => h) (Or.inl ⟨by rfl, ?_⟩) ?_ ?_
   rotate_left
   ·intro w'
    go_simp
    with_reducible rfl
   rotate_left
   ·simp only [Act.put, List.setIfInBounds_toArray, List.set_cons_zero, List.set_cons_succ, i64_w, i32_w]
    rfl
   refine last_ (i := 9) (N := none) #[true, true, true, true, true, true, true, true, true, true] rfl rfl (by kernel_rfl) (by decide) (fun K hK => ?_)
   refine skip_ (w1 := ?_) (by rfl) rfl ?_ ?_
   rotate_left
   ·go_simp
    rfl
   refine hK.out _ _ ?_
   clear hK K
   refine done_ (by kernel_rfl) ?_
   have y0 := (blk_cell G8.out.bs 0).trans rfl
   have y1 := (blk_cell G8.out.bs 1).trans rfl
   have y2 := (blk_cell G8.out.br 0).trans rfl
   have y3 := (blk_cell G8.out.br 1).trans rfl
   have y4 := blk_frozen G8.out.br 0
   have y5 := blk_frozen G8.out.br 1
   clear x7 f7 x6 x5
   go_wp2_with fail
   refine bodyPost_ret (results_cell_row rfl _ _ R 26 #[.slice A7 n7 c7, .slice AE uz.length cE] (0, 0) _ rfl (blk_put (blk_put G8.out.br 0 _ rfl) 1 _ rfl) Tryd.underlying26 rfl (by kernel_rfl)) rfl ?_
   obtain ⟨q1, q2, q3, q4, q5⟩ := G8.out.putR (.slice A7 n7 c7) (.slice AE uz.length cE)
   exact ⟨_, _, _, _, rfl, by simp, by simp, huz, q1, q2, q3.le (by omega), q4, q5⟩)
end Go.Proofs.YtjeipkfeihahdaaDoor
