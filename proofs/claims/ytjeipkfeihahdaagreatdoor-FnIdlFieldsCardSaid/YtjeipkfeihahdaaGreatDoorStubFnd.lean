/- Plain facts, merged out of several texts: StubFind, StubPlan. -/
import Derived.Test.YtjeipkfeihahdaaGreatDoorLemLay
import Derived.Test.YtjeipkfeihahdaaGreatDoorProg
import Derived.Maps.OwnSet
import Derived.Maps.OwnOps
import Derived.Maps.Views
import Derived.WalkKit
import Derived.Test.YtjeipkfeihahdaaGreatDoorStubSizesM
section
namespace Go.Proofs.YtjeipkfeihahdaaGreatDoor
set_option linter.unusedVariables false
set_option linter.unusedSimpArgs false
open Go.RowKit Go.Maps Go.Proofs.YtjeipkfeihahdaaGreatDoor.Lem Go.Proofs.YtjeipkfeihahdaaGreatDoorW.PrintWords Go.Proofs.YtjeipkfeihahdaaGreatDoorW.PrintLast Go.Proofs.YtjeipkfeihahdaaGreatDoorW.PrintMore
theorem law3 : Keyed Tryz.prog 3 := int_keyed Tryz.underlying3
theorem zero3 (w : World) : (zeroValue 3).run Tryz.prog w = .ok (.int .i64 0) w := by kernel_rfl
abbrev K2 (s : Nat) : Lit := .int .i64 ((2 : Int) ^ s)
/-- The map reads as the holes. -/
def HM (D : DataW Unit) (h : Holes) : Prop := ∀ s, s ≤ 5 → match h s with | some v => has D (K2 s) = true ∧ D.atKey (K2 s) (.lit (.int .i64 0)) = .lit (.int .i64 v) | none => has D (K2 s) = false
/-- The holes' places are small. -/
def HB (h : Holes) : Prop := ∀ s, s ≤ 5 → ∀ v, h s = some v → 0 ≤ v ∧ v ≤ 1000000
/-- A plan in memory: its row, its map, its holes. -/
structure Plan (w0 w : World) (pb mb n : Nat) (words ptrs tag pointer choices : Int) (rooms : Value) (h : Holes) : Prop where
  row : w.heap[pb]? = some (.cells #[.int .i64 words, .int .i64 ptrs, .map (some mb), .int .i64 tag, rooms, .int .i64 pointer, .int .i64 choices] 83 (0, 0))
  old : w0.heap.size ≤ pb ∧ w0.heap.size ≤ mb ∧ pb ≠ mb
  map : ∃ D : DataW Unit, w.ownsMap Tryz.prog 3 (plainElem Tryz.prog 3) mb n D ∧ HM D h
  below : Below w0.heap.size w0 w
/-- All blocks but the plan's own two stand as they stood. -/
structure Kept2 (w w' : World) (pb mb : Nat) : Prop where
  size : w'.heap.size = w.heap.size
  same : ∀ b, b ≠ pb → b ≠ mb → w'.heap[b]? = w.heap[b]?
theorem Kept2.refl (w : World) (pb mb : Nat) : Kept2 w w pb mb := ⟨rfl, fun _ _ _ => rfl⟩
theorem p2_wf (s : Nat) (hs : s ≤ 6) : (Lit.int .i64 ((2 : Int) ^ s)).wf = true := by
  match s, hs with
  | 0, _ => decide
  | 1, _ => decide
  | 2, _ => decide
  | 3, _ => decide
  | 4, _ => decide
  | 5, _ => decide
  | 6, _ => decide
theorem p2_le (s : Nat) (hs : s ≤ 6) : 1 ≤ (2 : Int) ^ s ∧ (2 : Int) ^ s ≤ 64 ∧ ((2 : Int) ^ s ≤ 32 ↔ s ≤ 5) := by
  match s, hs with
  | 0, _ => decide
  | 1, _ => decide
  | 2, _ => decide
  | 3, _ => decide
  | 4, _ => decide
  | 5, _ => decide
  | 6, _ => decide
theorem K2_inj {s u : Nat} (hs : s ≤ 5) (hu : u ≤ 5) (h : K2 s = K2 u) : s = u := by
  have key : ∀ s, s ≤ 5 → ∀ u, u ≤ 5 → (2 : Int) ^ s = 2 ^ u → s = u := by decide
  exact key s hs u hu (by injection h)
theorem K2_key (u : Nat) (hu : u ≤ 6) : WideAt.IsKeyLit (K2 u) := trivial
theorem HM.put {D : DataW Unit} {h : Holes} (H : HM D h) (hD : IsMap D) (u : Nat) (hu : u ≤ 5) (v : Int) : HM (D.put (K2 u) (.lit (.int .i64 v))) (hset h u (some v)) := by
  intro s hs
  unfold hset
  by_cases e : s = u
  · subst e
    rw [if_pos rfl]
    exact ⟨has_put_same hD (K2_key _ (by omega)) _, atKey_put_same hD (K2_key _ (by omega)) _ _⟩
  · rw [if_neg e]
    have hne : K2 s ≠ K2 u := fun x => e (K2_inj hs hu x)
    rw [has_put_other hne, atKey_put_other hne]
    exact H s hs
theorem HM.del {D : DataW Unit} {h : Holes} (H : HM D h) (u : Nat) (hu : u ≤ 5) : HM (D.del (K2 u)) (hset h u none) := by
  intro s hs
  unfold hset
  by_cases e : s = u
  · subst e
    rw [if_pos rfl]
    exact has_del_same
  · rw [if_neg e]
    have hne : K2 s ≠ K2 u := fun x => e (K2_inj hs hu x)
    rw [has_del_other hne, atKey_del_other hne]
    exact H s hs
section
variable {w0 w w1 : World} {pb mb n n' : Nat} {words ptrs tag pointer choices : Int} {rooms : Value} {h h' : Holes}
theorem Plan.turn (hP : Plan w0 w pb mb n words ptrs tag pointer choices rooms h) {D' : DataW Unit} (ho : w1.ownsMap Tryz.prog 3 (plainElem Tryz.prog 3) mb n' D') (ht : w.mapTurned w1 mb) (hm : HM D' h') :
    Plan w0 w1 pb mb n' words ptrs tag pointer choices rooms h' := by
  obtain ⟨h0, h1, h2⟩ := hP.old
  have hlt : pb < w.heap.size := by
    have := hP.row
    exact (Array.getElem?_eq_some_iff.mp this).1
  exact ⟨(ht.grown.block pb hlt (fun e => h2 (by injection e))).trans hP.row, hP.old, ⟨D', ho, hm⟩, hP.below.grown ht.grown hP.below.size (fun k hk => by injection hk with hk; omega)⟩
theorem Kept2.turn (hK : Kept2 w w1 pb mb) {w2 : World} (ht : w1.mapTurned w2 mb) : Kept2 w w2 pb mb := by
  refine ⟨?_, fun b h1 h2 => ?_⟩
  · obtain ⟨es, clock, es', clock', hb, rfl⟩ := ht
    rw [← hK.size]
    simp [ChangeMaps.setBlock]
  · by_cases hl : b < w1.heap.size
    · exact (ht.grown.block b hl (fun e => h2 (by injection e))).trans (hK.same b h1 h2)
    · rw [← hK.same b h1 h2]
      have hs : w2.heap.size = w1.heap.size := by
        obtain ⟨es, clock, es', clock', hb, rfl⟩ := ht
        simp [ChangeMaps.setBlock]
      rw [Array.getElem?_eq_none (by omega), Array.getElem?_eq_none (by omega)]
theorem Plan.setw (hP : Plan w0 w pb mb n words ptrs tag pointer choices rooms h) (x : Int) : Plan w0 (w.setCell ⟨pb, 0, none⟩ (.int .i64 x)) pb mb n x ptrs tag pointer choices rooms h := by
  obtain ⟨h0, h1, h2⟩ := hP.old
  obtain ⟨D, ho, hm⟩ := hP.map
  exact ⟨by simpa using blk_set hP.row 0 (.int .i64 x), hP.old, ⟨D, ho.setCell (fun e => h2 e.symm) _, hm⟩, below_set hP.below h0⟩
theorem Kept2.set (hK : Kept2 w w1 pb mb) (j : Nat) (x : Value) : Kept2 w (w1.setCell ⟨pb, j, none⟩ x) pb mb :=
  ⟨by rw [← hK.size]; simp, fun b h1 h2 => (Below.heap_setCell w1 _ _ b h1).trans (hK.same b h1 h2)⟩
theorem Plan.mono (hP : Plan w0 w pb mb n words ptrs tag pointer choices rooms h) (hn : n ≤ n') : Plan w0 w pb mb n' words ptrs tag pointer choices rooms h := by
  obtain ⟨D, ho, hm⟩ := hP.map
  exact ⟨hP.row, hP.old, ⟨D, ho.mono hn, hm⟩, hP.below⟩
theorem Plan.c0 (hP : Plan w0 w pb mb n words ptrs tag pointer choices rooms h) : w.cell? ⟨pb, 0, none⟩ = some (.int .i64 words) := (blk_cell hP.row 0).trans rfl
theorem Plan.c2 (hP : Plan w0 w pb mb n words ptrs tag pointer choices rooms h) : w.cell? ⟨pb, 2, none⟩ = some (.map (some mb)) := (blk_cell hP.row 2).trans rfl
theorem Plan.c4 (hP : Plan w0 w pb mb n words ptrs tag pointer choices rooms h) : w.cell? ⟨pb, 4, none⟩ = some rooms := (blk_cell hP.row 4).trans rfl
theorem Plan.f0 (hP : Plan w0 w pb mb n words ptrs tag pointer choices rooms h) : w.frozen? ⟨pb, 0, none⟩ = false := blk_frozen hP.row 0
end
theorem w64 {n : Int} (h0 : -9223372036854775808 ≤ n) (h1 : n < 9223372036854775808) : wrap64 n = n := by unfold wrap64; omega
theorem p2_step (t : Nat) (ht : t ≤ 5) : wrap64 ((2 : Int) ^ t * 2) = 2 ^ (t + 1) := by
  have := p2_le t (by omega)
  rw [w64 (by omega) (by omega), Int.pow_succ]
set_option maxHeartbeats 4000000 in
set_option maxRecDepth 100000 in
theorem find_calls (w0 w : World) (pb mb n : Nat) (words ptrs tag pointer choices : Int) (rooms : Value) (h : Holes) (s : Nat) (hs : s ≤ 5) (hP : Plan w0 w pb mb n words ptrs tag pointer choices rooms h) (hn : n ≤ 1000) (hw : 0 ≤ words ∧ words ≤ 1000) (hb : HB h) :
    Calls Tryz.prog 74 #[.pointer (some ⟨pb, 0, none⟩), .int .i64 ((2 : Int) ^ s)] w fun e w' => e = .returned (.int .i64 (findV words h s).1) ∧
      Plan w0 w' pb mb (n + 10) (findV words h s).2.1 ptrs tag pointer choices rooms (findV words h s).2.2 ∧ Kept2 w w' pb mb := by
  have hp := p2_le s (by omega)
  have hz64 : ¬ ((2 : Int) ^ s = 64) := by omega
  have c64 : ((2 : Int) ^ s == 64) = false := beq_eq_false_iff_ne.mpr hz64
  obtain ⟨R, hR⟩ : ∃ R, R = findV words h s := ⟨_, rfl⟩
  rw [← hR]
  unfold findV at hR
  rw [if_neg (by omega)] at hR
  obtain ⟨z, hz⟩ : ∃ z : Int, z = (2 : Int) ^ s := ⟨_, rfl⟩
  rw [← hz] at c64
  rw [← hz]
  have HZ := Aside0.mk hz
  have HPP := Aside0.mk hP
  have HR := Aside0.mk hR
  have HS := Aside0.mk hs
  have HN := Aside0.mk hn
  have HW := Aside0.mk hw
  have HBB := Aside0.mk hb
  clear hz hP hz64 hR hs hn hw hb hp
  go_enter Tryz.func74, Tryz.ntmps74
  go_wp2
  go_loopg [5] 7 (fun gg s5 wr => ∃ (t : Nat) (x : Int), s5 = .int .i64 x ∧ Aside0 (x = 2 ^ t ∧ s ≤ t ∧ t ≤ 6 ∧ 6 - t ≤ gg) ∧ Aside0 (wr = w) ∧ Aside0 (findF words h s t (6 - t) = R))
  case atStart => exact ⟨s, z, rfl, ⟨HZ.out, Nat.le_refl _, by have := HS.out; omega, by omega⟩, ⟨rfl⟩, ⟨HR.out.symm⟩⟩
  case round =>
    clear HR
    obtain ⟨t, x, rfl, HX, ⟨rfl⟩, HF⟩ := hrel
    obtain ⟨hx, hst, ht6, hgg⟩ := HX.out
    have hPl := p2_le t ht6
    by_cases ht5 : t ≤ 5
    · have c32 : decide (x ≤ 32) = true := decide_eq_true (by rw [hx]; exact hPl.2.2.mpr ht5)
      have hF := HF.out
      rw [show 6 - t = (5 - t) + 1 by omega] at hF
      simp only [findF] at hF
      obtain ⟨D, hown, hm⟩ := HPP.out.map
      have hmt := hm t ht5
      have hkey : keyOf Tryz.prog 3 (.int .i64 x) = some (.int .i64 x) := keyOf_int_mk Tryz.underlying3 (by rw [hx]; exact p2_wf t ht6)
      have hc2 := HPP.out.c2
      rcases hh : h t with _ | o
      · rw [hh] at hF hmt
        simp only at hF hmt
        rw [show K2 t = .int .i64 x by rw [hx]] at hmt
        obtain ⟨y, hy⟩ : ∃ y : Int, y = 2 ^ (t + 1) := ⟨_, rfl⟩
        have hy2 : wrap64 (x * 2) = y := by rw [hx, hy]; exact p2_step t ht5
        have HY := Aside0.mk hy
        have HX2 := Aside0.mk hx
        have HF2 := Aside0.mk hF
        have HG := Aside0.mk hgg
        have HST := Aside0.mk hst
        have HT5 := Aside0.mk ht5
        clear hy hx hF hgg hst hh hPl ht6 HF HX ht5 hm
        go_wp2_with (first
          | (at_lookup; refine wpList_lookup_own_ok_int _ rfl _ _ 80 rfl 3 3 .i64 law3 Tryz.underlying80 Tryz.underlying3 (zero3 _) mb n D rfl hown _ _ rfl hkey ?_; intro c hat hwc)
          | go_in)
        go_roundg (5 - t)
        case measure => have := HG.out; have := HT5.out; omega
        case rel =>
          have h1 := HST.out
          have h2 := HT5.out
          exact ⟨t + 1, _, rfl, ⟨hy2.trans HY.out, by omega, by omega, by omega⟩, ⟨rfl⟩, ⟨by rw [show 6 - (t + 1) = 5 - t by omega]; exact HF2.out⟩⟩
      · rw [hh] at hF hmt
        simp only at hF hmt
        rw [show K2 t = .int .i64 x by rw [hx]] at hmt
        obtain ⟨hhas, hat0⟩ := hmt
        have HAT := Aside0.mk hat0
        have HM0 := Aside0.mk hm
        have HX2 := Aside0.mk hx
        have HF2 := Aside0.mk hF
        have HG := Aside0.mk hgg
        have HST := Aside0.mk hst
        have HT5 := Aside0.mk ht5
        have HO := Aside0.mk (HBB.out t ht5 o hh)
        clear hat0 hx hF hgg hst hh hPl ht6 HF HX ht5 hm
        go_wp2_with (first
          | (at_lookup; refine wpList_lookup_own_ok_int _ rfl _ _ 80 rfl 3 3 .i64 law3 Tryz.underlying80 Tryz.underlying3 (zero3 _) mb n D rfl hown _ _ rfl hkey ?_; intro c hat hwc; obtain rfl : o = c := by (have e := HAT.out.symm.trans hat; injection e with e; injection e)
             clear hat hwc)
          | (at_delete; refine wpList_delete_own _ rfl _ _ 80 3 rfl 3 law3 Tryz.underlying80 _ mb n D rfl hown _ _ rfl hkey ?_; intro w1 hown1 hturn1)
          | go_in)
        have HP1 := Aside0.mk (HPP.out.turn hown1 hturn1 (by have := HM0.out.del t HT5.out; rw [show K2 t = .int .i64 x by rw [HX2.out]] at this; exact this))
        have HK1 := Aside0.mk ((Kept2.refl wr pb mb).turn hturn1)
        clear hown1 hturn1
        dsimp only [Act.put]
        go_loopg [5] 7 (fun gg s5 wi => ∃ (u : Nat) (x1 : Int), s5 = .int .i64 x1 ∧ Aside0 (x1 = 2 ^ u ∧ s ≤ u ∧ u ≤ t ∧ u - s ≤ gg) ∧ Aside0 (∃ nn h2, Plan w0 wi pb mb nn words ptrs tag pointer choices rooms h2 ∧ nn + u ≤ n + t ∧ halve h2 o s (u - s) = halve (hset h t none) o s (t - s)) ∧ Aside0 (Kept2 wr wi pb mb))
        case atStart => exact ⟨t, x, rfl, ⟨HX2.out, HST.out, Nat.le_refl _, by have := HT5.out; omega⟩, ⟨n, _, HP1.out, Nat.le_refl _, rfl⟩, HK1⟩
        case round =>
          clear HP1 HK1 hown hhas hkey
          obtain ⟨u, x1, rfl, HX3, HP3, HK3⟩ := hrel
          obtain ⟨hx1, hsu, hut, hgg1⟩ := HX3.out
          obtain ⟨nn, h2_, hP2, hnn, hH2⟩ := HP3.out
          have ht5 := HT5.out
          by_cases he : u = s
          · have cc : decide (z < x1) = false := decide_eq_false (by rw [hx1, HZ.out, he]; omega)
            have hfin : R = (o, words, h2_) := by rw [← HF2.out, ← hH2, he, Nat.sub_self]; rfl
            have HFIN := Aside0.mk hfin
            have HP4 := Aside0.mk hP2
            have HNN := Aside0.mk hnn
            clear hfin hP2 hnn hH2 hx1 hsu hut hgg1 he ht5
            go_wp2
            go_ret
            rw [HFIN.out]
            exact ⟨rfl, HP4.out.mono (by have := HNN.out; have := HT5.out; omega), HK3.out⟩
          · obtain ⟨v, rfl⟩ : ∃ v, u = v + 1 := ⟨u - 1, by omega⟩
            have hlt : (2 : Int) ^ s < 2 ^ (v + 1) := by
              have key : ∀ a, a ≤ 6 → ∀ b, b ≤ 6 → a < b → (2 : Int) ^ a < 2 ^ b := by decide
              exact key s (by omega) (v + 1) (by omega) (by omega)
            have cc : decide (z < x1) = true := decide_eq_true (by rw [hx1, HZ.out]; exact hlt)
            obtain ⟨D2, hown2, hm2⟩ := hP2.map
            have hc2b := hP2.c2
            have HP4 := Aside0.mk hP2
            have HM4 := Aside0.mk hm2
            have HNN := Aside0.mk hnn
            have HH2 := Aside0.mk hH2
            have HX4 := Aside0.mk hx1
            have HSU := Aside0.mk hsu
            have HUT := Aside0.mk hut
            have HG1 := Aside0.mk hgg1
            have HE := Aside0.mk he
            clear hP2 hm2 hnn hH2 hx1 hsu hut hgg1 he ht5 hlt
            obtain ⟨y, hy⟩ : ∃ y : Int, y = 2 ^ v := ⟨_, rfl⟩
            have hy2 : wrap64 (x1.tdiv 2) = y := by
              have hb2 := p2_le v (by have := HUT.out; have := HT5.out; omega)
              have hx := HX4.out
              rw [Int.pow_succ] at hx
              rw [hx, hy, Int.mul_tdiv_cancel _ (by decide)]
              exact w64 (by omega) (by omega)
            have hyb : 0 ≤ y ∧ y ≤ 64 := by
              have hb2 := p2_le v (by have := HUT.out; have := HT5.out; omega)
              omega
            have hv2 : wrap64 (o + wrap64 (x1.tdiv 2)) = o + y := by
              have := HO.out
              rw [hy2]; exact w64 (by omega) (by omega)
            have hkey2 : keyOf Tryz.prog 3 (.int .i64 (wrap64 (x1.tdiv 2))) = some (.int .i64 y) := by
              rw [hy2, hy]; exact keyOf_int_mk Tryz.underlying3 (p2_wf v (by have := HUT.out; have := HT5.out; omega))
            have hnn2 : nn < maxLen := Nat.lt_of_le_of_lt (show nn ≤ 2000 by have := HNN.out; have := HT5.out; have := HN.out; omega) (by decide)
            have HY := Aside0.mk hy
            have HY2 := Aside0.mk hy2
            have HV2 := Aside0.mk hv2
            clear hy hy2 hv2 hyb
            go_wp2_with (first
              | (at_mapUpdate; refine wpList_mapUpdate_in _ rfl _ _ _ 80 rfl 3 3 law3 Tryz.underlying80 _ mb nn D2 rfl hown2 hnn2 _ _ _ rfl rfl hkey2 _ [] (plainElem_int Tryz.underlying3 (wrap64_wf _)) ?_; intro w2 hown3 hturn3)
              | go_in)
            dsimp only [Act.put]
            go_roundg (v - s)
            case measure => have := HG1.out; have := HSU.out; have := HE.out; omega
            case rel =>
              have h1 := HSU.out
              have h2 := HUT.out
              have h3 := HG1.out
              have h4 := HE.out
              have h5 := HT5.out
              have h6 := HNN.out
              have hhm := HM4.out.put hown2.isMap v (by omega) (wrap64 (o + wrap64 (x1.tdiv 2)))
              refine ⟨v, _, rfl, ⟨HY2.out.trans HY.out, by omega, by omega, by omega⟩, ⟨nn + 1, hset h2_ v (some (o + 2 ^ v)), ?_, by omega, ?_⟩, ⟨HK3.out.turn hturn3⟩⟩
              · refine HP4.out.turn hown3 hturn3 ?_
                rw [show K2 v = .int .i64 y by rw [HY.out]] at hhm
                rw [HV2.out] at hhm ⊢
                rw [← HY.out]
                exact hhm
              · have := HH2.out
                rw [show v + 1 - s = (v - s) + 1 by omega] at this
                simp only [halve] at this
                rw [show s + (v - s) = v by omega] at this
                exact this
    · have c32 : decide (x ≤ 32) = false := decide_eq_false (by rw [hx, hPl.2.2]; exact ht5)
      have hF := HF.out
      have e6 : t = 6 := by omega
      subst e6
      simp only [Nat.sub_self, findF] at hF
      have HF2 := Aside0.mk hF
      have hc0 := HPP.out.c0
      have hf0 := HPP.out.f0
      clear hF hx hst hPl ht6 HF HX ht5 hgg
      go_wp2
      have hww : wrap64 (words + 1) = words + 1 := w64 (by have := HW.out; omega) (by have := HW.out; omega)
      have hw6 : wrap64 (64 * words) = 64 * words := w64 (by have := HW.out; omega) (by have := HW.out; omega)
      have HW6 := Aside0.mk hw6
      have HP1 := Aside0.mk (HPP.out.setw (wrap64 (words + 1)))
      rw [hww] at HP1
      have HK1 := Aside0.mk ((Kept2.refl wr pb mb).set 0 (.int .i64 (wrap64 (words + 1))))
      clear hww hw6 hc0 hf0
      go_loopg [9] 7 (fun gg s9 wi => ∃ (u : Nat) (x1 : Int), s9 = .int .i64 x1 ∧ Aside0 (x1 = 2 ^ u ∧ s ≤ u ∧ u ≤ 6 ∧ 6 - u ≤ gg) ∧ Aside0 (∃ nn h2, Plan w0 wi pb mb nn (words + 1) ptrs tag pointer choices rooms h2 ∧ nn + s ≤ n + u ∧ fillUp h2 (64 * words) u (6 - u) = fillUp h (64 * words) s (6 - s)) ∧ Aside0 (Kept2 wr wi pb mb))
      case atStart => exact ⟨s, z, rfl, ⟨HZ.out, Nat.le_refl _, by have := HS.out; omega, by omega⟩, ⟨n, _, by first | exact HP1.out | (rw [w64 (by have := HW.out; omega) (by have := HW.out; omega)]; exact HP1.out), Nat.le_refl _, rfl⟩, HK1⟩
      case round =>
        clear HP1 HK1
        obtain ⟨u, x1, rfl, HX3, HP3, HK3⟩ := hrel
        obtain ⟨hx1, hsu, hut, hgg1⟩ := HX3.out
        obtain ⟨nn, h2_, hP2, hnn, hH2⟩ := HP3.out
        have hPl := p2_le u hut
        by_cases he : u ≤ 5
        · have cc : decide (x1 ≤ 32) = true := decide_eq_true (by rw [hx1, hPl.2.2]; exact he)
          obtain ⟨D2, hown2, hm2⟩ := hP2.map
          have hc2b := hP2.c2
          have hv2 : wrap64 (wrap64 (64 * words) + x1) = 64 * words + x1 := by
            have := HW.out
            rw [HW6.out, hx1]; exact w64 (by omega) (by omega)
          have hy2 : wrap64 (x1 * 2) = 2 ^ (u + 1) := by rw [hx1]; exact p2_step u he
          have hkey2 : keyOf Tryz.prog 3 (.int .i64 x1) = some (.int .i64 x1) := keyOf_int_mk Tryz.underlying3 (by rw [hx1]; exact p2_wf u hut)
          have hnn2 : nn < maxLen := Nat.lt_of_le_of_lt (show nn ≤ 2000 by have := HN.out; omega) (by decide)
          have HP4 := Aside0.mk hP2
          have HM4 := Aside0.mk hm2
          have HNN := Aside0.mk hnn
          have HH2 := Aside0.mk hH2
          have HX4 := Aside0.mk hx1
          have HSU := Aside0.mk hsu
          have HG1 := Aside0.mk hgg1
          have HE := Aside0.mk he
          have HY2 := Aside0.mk hy2
          have HV2 := Aside0.mk hv2
          clear hP2 hm2 hnn hH2 hx1 hsu hut hgg1 he hPl hy2 hv2
          go_wp2_with (first
            | (at_mapUpdate; refine wpList_mapUpdate_in _ rfl _ _ _ 80 rfl 3 3 law3 Tryz.underlying80 _ mb nn D2 rfl hown2 hnn2 _ _ _ rfl rfl hkey2 _ [] (plainElem_int Tryz.underlying3 (wrap64_wf _)) ?_; intro w2 hown3 hturn3)
            | go_in)
          go_roundg (5 - u)
          case measure => have := HG1.out; have := HE.out; omega
          case rel =>
            have h1 := HSU.out
            have h3 := HG1.out
            have h5 := HE.out
            have h6 := HNN.out
            have hhm := HM4.out.put hown2.isMap u h5 (wrap64 (wrap64 (64 * words) + x1))
            refine ⟨u + 1, _, rfl, ⟨HY2.out, by omega, by omega, by omega⟩, ⟨nn + 1, hset h2_ u (some (64 * words + 2 ^ u)), ?_, by omega, ?_⟩, ⟨HK3.out.turn hturn3⟩⟩
            · refine HP4.out.turn hown3 hturn3 ?_
              rw [show K2 u = .int .i64 x1 by rw [HX4.out]] at hhm
              rw [HV2.out] at hhm ⊢
              rw [← HX4.out]
              exact hhm
            · have := HH2.out
              rw [show 6 - u = (6 - (u + 1)) + 1 by omega] at this
              simp only [fillUp] at this
              exact this
        · have cc : decide (x1 ≤ 32) = false := decide_eq_false (by rw [hx1, hPl.2.2]; exact he)
          have e6 : u = 6 := by omega
          subst e6
          have hfin : R = (64 * words, words + 1, h2_) := by rw [← HF2.out, ← hH2]; rfl
          have HFIN := Aside0.mk hfin
          have HP4 := Aside0.mk hP2
          have HNN := Aside0.mk hnn
          clear hfin hP2 hnn hH2 hx1 hsu hut hgg1 he hPl
          go_wp2
          go_ret
          rw [HFIN.out]
          exact ⟨by rw [HW6.out]; rfl, HP4.out.mono (by have := HNN.out; omega), HK3.out⟩
end Go.Proofs.YtjeipkfeihahdaaGreatDoor
end
section
namespace Go.Proofs.YtjeipkfeihahdaaGreatDoor
set_option linter.unusedVariables false
set_option linter.unusedSimpArgs false
open Go.RowKit Go.Maps Go.Proofs.YtjeipkfeihahdaaGreatDoor.Lem Go.Proofs.YtjeipkfeihahdaaGreatDoorW.PrintWords Go.Proofs.YtjeipkfeihahdaaGreatDoorW.PrintLast Go.Proofs.YtjeipkfeihahdaaGreatDoorW.PrintMore
def kRoom : Kd (Int × Int) := Kd.pair (Kd.int .i64) (Kd.int .i64)
theorem kRoom_mkM (w : World) (base : Nat) (ok : Nat → Prop) (x : Int × Int) : kRoom.M w base ok x [.int .i64 x.1, .int .i64 x.2] := ⟨[.int .i64 x.1], [.int .i64 x.2], rfl, rfl, rfl⟩
theorem kRoom_open {w : World} {x : Int × Int} {cs : List Value} (h : kRoom.K w x cs) : cs = [.int .i64 x.1, .int .i64 x.2] := by
 obtain ⟨c0, c1, rfl, rfl, rfl⟩ := h
 rfl
/-- Rows of other types stand as they stood. -/
structure KeptT (w w' : World) : Prop where
 size : w.heap.size ≤ w'.heap.size
 same : ∀ (k : Nat) (cs : Array Value) (t : TypeId) (fr : Nat × Nat), w.heap[k]? = some (Obj.cells cs t fr) → t ≠ 83 → t ≠ 131 → w'.heap[k]? = some (Obj.cells cs t fr)
theorem KeptT.refl (w : World) : KeptT w w := ⟨Nat.le_refl _, fun _ _ _ _ h _ _ => h⟩
theorem KeptT.trans {a b c : World} (h : KeptT a b) (k : KeptT b c) : KeptT a c := ⟨Nat.le_trans h.size k.size, fun b cs t fr e h1 h2 => k.same b cs t fr (h.same b cs t fr e h1 h2) h1 h2⟩
theorem KeptT.of_below {w w' : World} (h : Below w.heap.size w w') : KeptT w w' := ⟨h.size, fun k cs t fr e _ _ => (h.block k (Array.getElem?_eq_some_iff.mp e).1).trans e⟩
theorem KeptT.of_set {w : World} {g : Nat} {cs0 : Array Value} {t0 : TypeId} {fr0 : Nat × Nat} (h : w.heap[g]? = some (.cells cs0 t0 fr0)) (ht : t0 = 83 ∨ t0 = 131) (j : Nat) (u : Value) : KeptT w (w.setCell ⟨g, j, none⟩ u) := by
 refine ⟨by simp, fun k cs t fr e h1 h2 => ?_⟩
 by_cases hk : k = g
 ·subst hk
  rw [h] at e
  injection e with e
  injection e with e1 e2 e3
  subst e2
  rcases ht with ht | ht
  ·exact absurd ht h1
  ·exact absurd ht h2
 ·exact (Below.heap_setCell w _ _ k hk).trans e
theorem KeptT.of_grown {w w' : World} {row : Option Nat} (hg : w.grownBy w' row) (hr : ∀ k, row = some k → ∃ cs, w.heap[k]? = some (Obj.cells cs 131 (0, 0))) : KeptT w w' := by
 refine ⟨hg.size, fun k cs t fr e h1 h2 => (hg.block k (Array.getElem?_eq_some_iff.mp e).1 (fun hk => ?_)).trans e⟩
 obtain ⟨cs1, e1⟩ := hr k hk.symm
 rw [e1] at e
 injection e with e
 injection e with _ e2 _
 exact h2 e2.symm
def roomRow (r : Int × Nat) : Int × Int := (r.1, 2 ^ r.2)
abbrev okP (pb mb : Nat) : Nat → Prop := fun k => k ≠ pb ∧ k ≠ mb
/-- A plan in memory. -/
structure IsP (w0 w : World) (pb mb n : Nat) (p : PS) : Prop where mk ::
 out : ∃ rv, Plan w0 w pb mb n p.words p.ptrs p.tag p.pointer p.choices rv p.h ∧ Kd.R kRoom 131 w w0.heap.size (okP pb mb) rv (p.rooms.map roomRow)
section
variable {w0 w w1 : World} {pb mb n n' : Nat} {words ptrs tag pointer choices : Int} {rooms : Value} {h : Holes} {p : PS}
theorem Plan.lt (hP : Plan w0 w pb mb n words ptrs tag pointer choices rooms h) : pb < w.heap.size ∧ mb < w.heap.size := by
 obtain ⟨D, ho, hm⟩ := hP.map
 exact ⟨(Array.getElem?_eq_some_iff.mp hP.row).1, ho.lt⟩
theorem Plan.below_ (hP : Plan w0 w pb mb n words ptrs tag pointer choices rooms h) (hb : Below w.heap.size w w1) : Plan w0 w1 pb mb n words ptrs tag pointer choices rooms h := by
 obtain ⟨l1, l2⟩ := hP.lt
 obtain ⟨D, ho, hm⟩ := hP.map
 exact ⟨(hb.block pb l1).trans hP.row, hP.old, ⟨D, ho.kept (row := none) ⟨hb.os, hb.tape, hb.output, hb.size, fun k hk _ => hb.block k hk⟩ (by simp), hm⟩, hP.below.trans (hb.mono hP.below.size)⟩
theorem Plan.grown2 (hP : Plan w0 w pb mb n words ptrs tag pointer choices rooms h) {row : Option Nat} (hg : w.grownBy w1 row) (h1 : some pb ≠ row) (h2 : some mb ≠ row) (hb : Below w0.heap.size w0 w1) : Plan w0 w1 pb mb n words ptrs tag pointer choices rooms h := by
 obtain ⟨l1, l2⟩ := hP.lt
 obtain ⟨D, ho, hm⟩ := hP.map
 exact ⟨(hg.block pb l1 h1).trans hP.row, hP.old, ⟨D, ho.kept hg h2, hm⟩, hb⟩
theorem IsP.below_ (H : IsP w0 w pb mb n p) (hb : Below w.heap.size w w1) : IsP w0 w1 pb mb n p := by
 obtain ⟨rv, hP, hR⟩ := H.out
 exact ⟨rv, hP.below_ hb, Kd.R_below hR hb⟩
theorem IsP.mono (H : IsP w0 w pb mb n p) (hn : n ≤ n') : IsP w0 w pb mb n' p := by
 obtain ⟨rv, hP, hR⟩ := H.out
 exact ⟨rv, hP.mono hn, hR⟩
theorem IsP.low (H : IsP w0 w pb mb n p) : Below w0.heap.size w0 w := by
 obtain ⟨rv, hP, hR⟩ := H.out
 exact hP.below
theorem Plan.set_ (hP : Plan w0 w pb mb n words ptrs tag pointer choices rooms h) (j : Nat) (x : Value) {words' ptrs' tag' pointer' choices' : Int} {rooms' : Value}
  (he : (#[.int .i64 words, .int .i64 ptrs, .map (some mb), .int .i64 tag, rooms, .int .i64 pointer, .int .i64 choices] : Array Value).setIfInBounds j x = #[.int .i64 words', .int .i64 ptrs', .map (some mb), .int .i64 tag', rooms', .int .i64 pointer', .int .i64 choices']) :
  Plan w0 (w.setCell ⟨pb, j, none⟩ x) pb mb n words' ptrs' tag' pointer' choices' rooms' h := by
 obtain ⟨h0, h1, h2⟩ := hP.old
 obtain ⟨D, ho, hm⟩ := hP.map
 exact ⟨by rw [← he]; exact blk_set hP.row j x, hP.old, ⟨D, ho.setCell (fun e => h2 e.symm) _, hm⟩, below_set hP.below h0⟩
theorem IsP.set_ (H : IsP w0 w pb mb n p) (j : Nat) (x : Value) {q : PS} (hh : q.h = p.h) (hrm : q.rooms = p.rooms)
  (he : ∀ rv, (#[.int .i64 p.words, .int .i64 p.ptrs, .map (some mb), .int .i64 p.tag, rv, .int .i64 p.pointer, .int .i64 p.choices] : Array Value).setIfInBounds j x = #[.int .i64 q.words, .int .i64 q.ptrs, .map (some mb), .int .i64 q.tag, rv, .int .i64 q.pointer, .int .i64 q.choices]) :
  IsP w0 (w.setCell ⟨pb, j, none⟩ x) pb mb n q ∧ KeptT w (w.setCell ⟨pb, j, none⟩ x) := by
 obtain ⟨rv, hP, hR⟩ := H.out
 refine ⟨⟨rv, ?_, ?_⟩, KeptT.of_set hP.row (.inl rfl) j x⟩
 ·rw [hh]; exact hP.set_ j x (he rv)
 ·rw [hrm]; exact Kd.R_far hR (fun k hk => hk.1) x
theorem KeptT.of_two (hP : Plan w0 w pb mb n words ptrs tag pointer choices rooms h) (hK : Kept2 w w1 pb mb) : KeptT w w1 := by
 refine ⟨by rw [hK.size]; exact Nat.le_refl _, fun k cs t fr e h1 h2 => (hK.same k (fun hk => ?_) (fun hk => ?_)).trans e⟩
 ·subst hk
  rw [hP.row] at e
  injection e with e
  injection e with _ e2 _
  exact h1 e2.symm
 ·subst hk
  obtain ⟨D, ⟨es, clock, hb, _⟩, _⟩ := hP.map
  rw [hb] at e
  cases e
end
set_option maxRecDepth 100000 in
theorem find64_calls (w0 w : World) (pb mb n : Nat) (words ptrs tag pointer choices : Int) (rooms : Value) (h : Holes) (hP : Plan w0 w pb mb n words ptrs tag pointer choices rooms h) (hw : 0 ≤ words ∧ words ≤ 1000) :
  Calls Tryz.prog 74 #[.pointer (some ⟨pb, 0, none⟩), .int .i64 64] w fun e w' => e = .returned (.int .i64 (64 * words)) ∧ Plan w0 w' pb mb (n + 10) (words + 1) ptrs tag pointer choices rooms h ∧ Kept2 w w' pb mb := by
 have hc0 := hP.c0
 have hf0 := hP.f0
 have hw1 : wrap64 (words + 1) = words + 1 := w64 (by omega) (by omega)
 have hw2 : wrap64 (64 * words) = 64 * words := w64 (by omega) (by omega)
 have hw3 : wrap64 words = words := w64 (by omega) (by omega)
 have HPP := Aside0.mk hP
 clear hP hw
 go_enter Tryz.func74, Tryz.ntmps74
 go_wp2
 go_ret
 have HP1 := HPP.out.setw (words + 1)
 exact ⟨congrArg (fun x => Ending.returned (Value.int .i64 x)) hw2, HP1.mono (by omega), (Kept2.refl w pb mb).set 0 _⟩
/-- With the rooms' own value told. -/
structure IsPv (w0 w : World) (pb mb n : Nat) (p : PS) (rv : Value) : Prop where
 plan : Plan w0 w pb mb n p.words p.ptrs p.tag p.pointer p.choices rv p.h
 rooms : Kd.R kRoom 131 w w0.heap.size (okP pb mb) rv (p.rooms.map roomRow)
theorem IsPv.all {w0 w : World} {pb mb n : Nat} {p : PS} {rv : Value} (h : IsPv w0 w pb mb n p rv) : IsP w0 w pb mb n p := ⟨rv, h.plan, h.rooms⟩
theorem IsP.open_ {w0 w : World} {pb mb n : Nat} {p : PS} (h : IsP w0 w pb mb n p) : ∃ rv, IsPv w0 w pb mb n p rv := by
 obtain ⟨rv, a, b⟩ := h.out
 exact ⟨rv, a, b⟩
theorem IsPv.below_ {w0 w w1 : World} {pb mb n : Nat} {p : PS} {rv : Value} (h : IsPv w0 w pb mb n p rv) (hb : Below w.heap.size w w1) : IsPv w0 w1 pb mb n p rv := ⟨h.plan.below_ hb, Kd.R_below h.rooms hb⟩
theorem findv_calls (w0 w : World) (pb mb n kw k : Nat) (p : PS) (rv : Value) (s : Nat) (hs : s ≤ 6) (z : Int) (hz : z = 2 ^ s) (hn : n ≤ 900) (hi : Inv kw k p) (hk : kw ≤ 40) (H : IsPv w0 w pb mb n p rv) :
  Calls Tryz.prog 74 #[.pointer (some ⟨pb, 0, none⟩), .int .i64 z] w fun e w' => e = .returned (.int .i64 (findP p s).1) ∧ IsPv w0 w' pb mb (n + 10) (findP p s).2 rv ∧ KeptT w w' := by
 subst hz
 have hP := H.plan
 have hR := H.rooms
 have hw := hi.words
 by_cases h5 : s ≤ 5
 ·refine (find_calls w0 w pb mb n p.words p.ptrs p.tag p.pointer p.choices rv p.h s h5 hP (by omega) (by omega) (fun s hs v hv => ?_)).mono ?_
  ·obtain ⟨a, b, _⟩ := hi.hi s hs v hv
   have := p2pos s
   omega
  ·rintro e w' ⟨rfl, hP2, hK⟩
   exact ⟨rfl, ⟨hP2, Kd.R_step hR (fun k hk _ => hK.same k hk.1 hk.2)⟩, KeptT.of_two hP hK⟩
 ·have e : s = 6 := by omega
  subst e
  have e1 : findV p.words p.h 6 = (64 * p.words, p.words + 1, p.h) := rfl
  refine (find64_calls w0 w pb mb n p.words p.ptrs p.tag p.pointer p.choices rv p.h hP (by omega)).mono ?_
  rintro e w' ⟨rfl, hP2, hK⟩
  exact ⟨rfl, ⟨hP2, Kd.R_step hR (fun k hk _ => hK.same k hk.1 hk.2)⟩, KeptT.of_two hP hK⟩
theorem findp_calls (w0 w : World) (pb mb n kw k : Nat) (p : PS) (s : Nat) (hs : s ≤ 6) (z : Int) (hz : z = 2 ^ s) (hn : n ≤ 900) (hi : Inv kw k p) (hk : kw ≤ 40) (H : IsP w0 w pb mb n p) :
  Calls Tryz.prog 74 #[.pointer (some ⟨pb, 0, none⟩), .int .i64 z] w fun e w' => e = .returned (.int .i64 (findP p s).1) ∧ IsP w0 w' pb mb (n + 10) (findP p s).2 ∧ KeptT w w' := by
 obtain ⟨rv, h⟩ := H.open_
 refine (findv_calls w0 w pb mb n kw k p rv s hs z hz hn hi hk h).mono ?_
 rintro e w' ⟨rfl, a, b⟩
 exact ⟨rfl, a.all, b⟩
end Go.Proofs.YtjeipkfeihahdaaGreatDoor
end
