/- Whether a schema is formed as it should be, walked. -/
import Derived.Test.YtjeipkfeihahdaaDoorStubEvery
namespace Go.Proofs.YtjeipkfeihahdaaDoor
set_option linter.unusedVariables false
set_option linter.unusedSimpArgs false
open Go.RowKit Go.Proofs.YtjeipkfeihahdaaDoor.P Go.Proofs.YtjeipkfeihahdaaDoor.Lem Go.Proofs.YtjeipkfeihahdaaDoorW.PrintWords Go.Proofs.YtjeipkfeihahdaaDoorW.PrintLast Go.Proofs.YtjeipkfeihahdaaDoorW.PrintMore
theorem str_at {W : World} {A : Option Addr} {l : List ByteArray} (h : Kd.C Kd.string W A l.length l) (i : Nat) (hi : i < l.length) : ∃ ad, A = some ad ∧ W.cell? (ad.add i) = some (.string l[i]) := by
 obtain ⟨ad, cs, e, hl, hK, hcell⟩ := Kd.C_get h ⟨#[]⟩ (i : Int) (by omega) (by omega)
 have hk : cs = [.string (l.getD (i : Int).toNat ⟨#[]⟩)] := hK
 subst hk
 have := hcell 0 _ rfl
 exact ⟨ad, e, by simpa [Kd.string, Kd.scalar, List.getD_eq_getElem?_getD, hi] using this⟩
theorem lot_at {W : World} {A : Option Addr} {l : List (List ByteArray)} (h : Kd.C (Kd.slice 9 Kd.string) W A l.length l) (i : Nat) (hi : i < l.length) : ∃ ad B c, A = some ad ∧ W.cell? (ad.add i) = some (.slice B l[i].length c) ∧ l[i].length ≤ c ∧ Kd.C Kd.string W B l[i].length l[i] := by
 obtain ⟨ad, cs, e, hl, ⟨B, c, hcs, hlc, hC⟩, hcell⟩ := Kd.C_get h [] (i : Int) (by omega) (by omega)
 have hg : l.getD (i : Int).toNat [] = l[i] := by simp [List.getD_eq_getElem?_getD, hi]
 rw [hg] at hcs hlc hC
 subst hcs
 have := hcell 0 _ rfl
 exact ⟨ad, B, c, e, by simpa [Kd.slice] using this, hlc, hC⟩
theorem name_calls (s : ByteArray) (hs : s.size ≤ 1000) (W : World) : Calls Tryd.prog 30 #[.string s] W fun e w' => e = .returned (.bool (nameOk s)) ∧ Below W.heap.size W w' :=
 (impl_isName.calls 1002 s _ W (isName_f s hs 1002 (Nat.le_refl _))).mono fun _ _ ⟨h1, h2⟩ => ⟨h1, h2.below⟩
set_option maxHeartbeats 1000000 in
theorem closureForm (x : SD) (hs : x.f2.f0.size ≤ 1000) (W : World) : Calls Tryd.prog 31 #[aggD x] W fun e w' => e = .returned (.bool (nameOk x.f2.f0)) ∧ Below W.heap.size W w' := by
 have hn := name_calls x.f2.f0 hs (W.alloc (blkD x))
 obtain ⟨f0, f1, f2, f3, f4, f5⟩ := at6_new W x
 generalize nameOk x.f2.f0 = r at hn ⊢
 go_enter Tryd.func31, Tryd.ntmps31
 go_wp2_with (go_at_call 30; refine hn.mono ?_; clear hn; rintro e W2 ⟨rfl, hb⟩; have HB := Aside0.mk hb; clear hb)
 go_ret
 exact ⟨rfl, (below_alloc (Below.refl _ _) _).trans (HB.out.mono (by rw [World.size_alloc]; exact Nat.le_succ _))⟩
section
variable {A0 A1 : Option Addr} {c0 c1 : Nat} {l0 : List SS} {l1 : List SE}
/-- Formed as it should be. -/
def formedF (l0 : List SS) (l1 : List SE) : Bool :=
 decide (1 ≤ l0.length ∧ l0.length ≤ 5) && (decide (l1.length ≤ 3) && ((allOf (lotsOf l0 l1 ++ [topOf l0 l1])).all nameOk && ((lotsOf l0 l1).all (fun l => decide (1 ≤ l.length ∧ l.length ≤ 8)) && ((topOf l0 l1).all (fun s => baseSize s == 0) && allD l0 (fun x => nameOk x.f2.f0)))))
theorem formed_f1 (h : (allOf (lotsOf l0 l1 ++ [topOf l0 l1])).all nameOk = false) : formedF l0 l1 = false := by unfold formedF; rw [h]; simp
theorem formed_f2 (h : (lotsOf l0 l1).all (fun l => decide (1 ≤ l.length ∧ l.length ≤ 8)) = false) : formedF l0 l1 = false := by unfold formedF; rw [h]; simp
theorem formed_f3 (h : (topOf l0 l1).all (fun s => baseSize s == 0) = false) : formedF l0 l1 = false := by unfold formedF; rw [h]; simp
theorem formed_f4 (g0 : 1 ≤ l0.length ∧ l0.length ≤ 5) (g1 : l1.length ≤ 3) (h1 : (allOf (lotsOf l0 l1 ++ [topOf l0 l1])).all nameOk = true) (h2 : (lotsOf l0 l1).all (fun l => decide (1 ≤ l.length ∧ l.length ≤ 8)) = true) (h3 : (topOf l0 l1).all (fun s => baseSize s == 0) = true) : formedF l0 l1 = allD l0 (fun x => nameOk x.f2.f0) := by
 unfold formedF
 rw [h1, h2, h3, decide_eq_true g0, decide_eq_true g1]
 simp
set_option maxHeartbeats 4000000 in
set_option maxRecDepth 100000 in
theorem formed_calls (w : World) (hSB : SBw w) (hS : Small l0 l1) (h : SchAt w A0 c0 l0 A1 c1 l1) :
  Calls Tryd.prog 9 #[schV A0 c0 l0 A1 c1 l1] w fun e w' => e = .returned (.bool (formedF l0 l1)) ∧ Below w.heap.size w w' := by
 obtain ⟨hLB, hLN⟩ := lots_bound l0 l1 hS
 have n0 := hS.n0
 have n1 := hS.n1
 have PI := fun (W : World) (a : Int) (b c : Int) => impl_in.calls a b c _ W (in_f a b c)
 have PN0 := fun (W : World) (hW : Below w.heap.size w W) => names_calls W hS (h.below hW)
 obtain ⟨m, hm⟩ : ∃ m, m = (lotsOf l0 l1).length := ⟨_, rfl⟩
 have hm1 : (lotsOf l0 l1 ++ [topOf l0 l1]).length = m + 1 := by rw [hm]; simp
 obtain ⟨LL, hLL⟩ : ∃ LL, LL = lotsOf l0 l1 ++ [topOf l0 l1] := ⟨_, rfl⟩
 obtain ⟨AL, hAL⟩ : ∃ AL, AL = allOf LL := ⟨_, rfl⟩
 simp only [← hLL] at PN0 hm1 hLB hLN
 simp only [← hAL, hm1] at PN0
 have PN := Aside0.mk PN0
 have hA20 : ∀ s ∈ AL, s.size ≤ 1000 := fun s hs => by
  rw [hAL] at hs
  unfold allOf at hs
  obtain ⟨l, hl, hsl⟩ := List.mem_flatten.1 hs
  have := (hLB l hl).2 s hsl
  omega
 have hALn : AL.length ≤ 1000000 := by rw [hAL]; have := allOf_bound LL 20 (fun l hl => (hLB l hl).1); omega
 have hB8 : ∀ l ∈ LL, l.length ≤ 20 := fun l hl => (hLB l hl).1
 have hTk : LL.take m = lotsOf l0 l1 := by rw [hLL, hm, List.take_left]
 have hLt : ∀ h, LL[m]'h = topOf l0 l1 := fun h => by simp only [hLL]; simp [hm]
 have hT20 : ∀ s ∈ topOf l0 l1, s.size ≤ 1000 := fun s hs => by have := (hLB (topOf l0 l1) (by rw [hLL]; simp)).2 s hs; omega
 have PV := Aside0.mk (fun (W : World) (hW : Below w.heap.size w W) => every_calls 31 #[] (enters_of Tryd.func31 (by kernel_rfl) rfl) (fun x => nameOk x.f2.f0) W hS (h.below hW) (fun W' hW' d hd x hx => by
  have := closureForm x (by have := ((hS.s0 d hd).2.2 x hx).2.1; omega) W'
  simpa using this))
 have HLB := Aside0.mk hLB
 obtain ⟨bm, hg, hgs, hlk⟩ := hSB.base
 have PG := Aside0.mk (fun (W : World) (hW : Below w.heap.size w W) (q : ByteArray) (hq : q.size ≤ 1000) => And.intro (pw_cell_below hW hg) (hlk W hW q (by unfold maxLen; omega)))
 have HLL := Aside0.mk hLL
 have HAL := Aside0.mk hAL
 have HA20 := Aside0.mk hA20
 have HB8 := Aside0.mk hB8
 have HTk := Aside0.mk hTk
 have HLt := Aside0.mk hLt
 have HT20 := Aside0.mk hT20
 have HM := Aside0.mk hm
 have HM1 := Aside0.mk hm1
 obtain ⟨r, hr⟩ : ∃ r, r = formedF l0 l1 := ⟨_, rfl⟩
 rw [← hr]
 have HR := Aside0.mk hr
 clear hSB hg hlk h hS hLB hr hLL hAL hA20 hB8 hTk hLt hT20 hm PN0
 go_enter Tryd.func9, Tryd.ntmps9
 obtain ⟨W1, hW1⟩ : ∃ W1, W1 = w.alloc (.cells #[.slice A0 l0.length c0, .slice A1 l1.length c1] 26) := ⟨_, rfl⟩
 have hb1 : Below w.heap.size w W1 := by rw [hW1]; exact below_alloc (Below.refl _ _) _
 have x0 : W1.cell? ⟨w.heap.size, 0, none⟩ = some (.slice A0 l0.length c0) := by rw [hW1]; simp
 have x1 : W1.cell? ⟨w.heap.size, 1, none⟩ = some (.slice A1 l1.length c1) := by rw [hW1]; simp
 have PC := Aside0.mk (fun (W : World) (hW : Below W1.heap.size W1 W) => And.intro (pw_cell_below hW x0) (pw_cell_below hW x1))
 have HW1 := Aside0.mk hW1
 have HB1 := Aside0.mk hb1
 clear hW1 hb1
 go_upto_region 1 with fail
 rw [← HW1.out]
 by_cases g0 : 1 ≤ l0.length ∧ l0.length ≤ 5
 case neg =>
  have hin := PI W1 (l0.length : Int) 1 5
  rw [decide_eq_false (by omega)] at hin
  have hrF : r = false := by rw [HR.out]; unfold formedF; rw [decide_eq_false g0]; rfl
  subst hrF
  clear g0
  go_wp2_with (go_at_call 29; refine hin.mono ?_; clear hin; rintro e W2 ⟨rfl, hd⟩; have HD := Aside0.mk hd; clear hd)
  go_ret
  exact ⟨rfl, HB1.out.trans (HD.out.below.mono HB1.out.size)⟩
 case pos =>
  have hin := PI W1 (l0.length : Int) 1 5
  rw [decide_eq_true (by omega)] at hin
  have HG0 := Aside0.mk g0
  by_cases g1 : l1.length ≤ 3
  case neg =>
   have g1' : (3 : Int) < (l1.length : Int) := by omega
   have hrF : r = false := by rw [HR.out]; unfold formedF; rw [decide_eq_false g1]; simp
   subst hrF
   clear g1
   go_wp2_with (go_at_call 29; refine hin.mono ?_; clear hin; rintro e W2 ⟨rfl, hd⟩; have HD := Aside0.mk hd; clear hd; obtain ⟨y0, y1⟩ := PC.out W2 HD.out.below)
   go_ret
   exact ⟨rfl, HB1.out.trans (HD.out.below.mono HB1.out.size)⟩
  case pos =>
   have g1' : ¬ (3 : Int) < (l1.length : Int) := by omega
   have HG1 := Aside0.mk g1
   clear g1
   go_upto_region 3 with (go_at_call 29; refine hin.mono ?_; clear hin; rintro e W2 ⟨rfl, hd⟩; have HD := Aside0.mk hd; clear hd; obtain ⟨y0, y1⟩ := PC.out W2 HD.out.below)
   have HB2 := Aside0.mk (show Below w.heap.size w W2 from HB1.out.trans (HD.out.below.mono HB1.out.size))
   go_upto_region 4 with (go_at_call 10; refine (PN.out W2 HB2.out).mono ?_; rintro e W3 ⟨B0, d0, B1, d1, rfl, hC0, hd1, hC1, hb3⟩; have HC0 := Aside0.mk hC0; have HC1 := Aside0.mk hC1; have HB3 := Aside0.mk hb3; clear hC0 hC1 hb3)
   have HB4 := Aside0.mk (show Below w.heap.size w W3 from HB2.out.trans (HB3.out.mono HB2.out.size))
   have HB13 := Aside0.mk (show Below W1.heap.size W1 W3 from HD.out.below.trans (HB3.out.mono HD.out.below.size))
   have SA := Aside0.mk (fun (W : World) (hW : Below W3.heap.size W3 W) => str_at (Kd.C_below HC0.out hW))
   clear y0 y1 x0 x1
   go_upto_region 5 with fail
   go_loopg [31] AL.length (fun gg v31 wr => ∃ i : Nat, v31 = .int .i64 i ∧ i ≤ AL.length ∧ AL.length - i ≤ gg ∧ Aside0 (Below W3.heap.size W3 wr) ∧ Aside0 ((AL.take i).all nameOk = true))
   case atStart => exact ⟨0, rfl, by omega, by omega, ⟨Below.refl _ _⟩, ⟨rfl⟩⟩
   case round =>
    obtain ⟨i, rfl, hi, hgg, HB5, HA⟩ := hrel
    by_cases hlt : i < AL.length
    ·obtain ⟨ad, rfl, hcell⟩ := SA.out wr HB5.out i hlt
     have hlt' : (i : Int) < (AL.length : Int) := by omega
     obtain ⟨q, hq⟩ : ∃ q, q = AL[i] := ⟨_, rfl⟩
     rw [← hq] at hcell
     have hn := name_calls q (by rw [hq]; exact HA20.out _ (List.getElem_mem _)) wr
     obtain ⟨bq, hbq⟩ : ∃ b, b = nameOk q := ⟨_, rfl⟩
     rw [← hbq] at hn
     have HQ := Aside0.mk hq
     have HBQ := Aside0.mk hbq
     clear hq hbq
     cases bq
     ·have hrF : r = false := by
       rw [HR.out]
       refine formed_f1 (?_)
       rw [← HLL.out, ← HAL.out]
       exact all_false _ _ i hlt (by rw [← HQ.out]; exact HBQ.out.symm)
      subst hrF
      go_wp2_with (go_at_call 30; refine hn.mono ?_; clear hn; rintro e W6 ⟨rfl, hb6⟩; have HB6 := Aside0.mk hb6; clear hb6)
      go_ret
      exact ⟨rfl, HB4.out.trans ((HB5.out.trans (HB6.out.mono HB5.out.size)).mono HB4.out.size)⟩
     ·go_wp2_with (go_at_call 30; refine hn.mono ?_; clear hn; rintro e W6 ⟨rfl, hb6⟩; have HB6 := Aside0.mk hb6; clear hb6)
      go_roundg (AL.length - (i + 1))
      case measure => omega
      case rel => exact ⟨i + 1, by go_num, by omega, by omega, ⟨HB5.out.trans (HB6.out.mono HB5.out.size)⟩, ⟨by rw [take_all _ _ i hlt, HA.out, ← HQ.out, ← HBQ.out]; rfl⟩⟩
    ·obtain rfl : i = AL.length := by omega
     have hA1 := HA.out
     rw [List.take_length] at hA1
     have HA1 := Aside0.mk hA1
     clear hA1 HA SA HC0
     obtain ⟨W5, rfl⟩ : ∃ W5, W5 = wr := ⟨_, rfl⟩
     have SL := Aside0.mk (fun (W : World) (hW : Below W5.heap.size W5 W) => lot_at (l := LL) (by have := Kd.C_below HC1.out (HB5.out.trans (hW.mono HB5.out.size)); rwa [← HM1.out] at this))
     have hwm : IntKind.i64.wrap (((m + 1 : Nat) : Int) - 1) = (m : Int) := by rw [IntKind.wrap_i64]; omega
     have hmd : (m : Int) ≤ (d1 : Int) := by omega
     go_upto_region 11 with fail
     go_loopg [45] m (fun gg v45 wr => ∃ i : Nat, v45 = .int .i64 i ∧ i ≤ m ∧ m - i ≤ gg ∧ Aside0 (Below W5.heap.size W5 wr) ∧ Aside0 ((LL.take i).all (fun l => decide (1 ≤ l.length ∧ l.length ≤ 8)) = true))
     case atStart => exact ⟨0, rfl, by omega, by omega, ⟨Below.refl _ _⟩, ⟨rfl⟩⟩
     case round =>
      obtain ⟨i, rfl, hi, hgg, HB6, HA⟩ := hrel
      by_cases hlt : i < m
      ·have hltL : i < LL.length := by omega
       obtain ⟨ad, B, c, rfl, hcell, hlc, _⟩ := SL.out wr HB6.out i hltL
       have hlt' : (i : Int) < (m : Int) := by omega
       obtain ⟨q, hq⟩ : ∃ q, q = LL[i] := ⟨_, rfl⟩
       rw [← hq] at hcell hlc
       have hq20 : q.length ≤ 20 := HB8.out q (by rw [hq]; exact List.getElem_mem _)
       have hn := PI wr (q.length : Int) 1 8
       obtain ⟨bq, hbq⟩ : ∃ b, b = decide (1 ≤ q.length ∧ q.length ≤ 8) := ⟨_, rfl⟩
       rw [show decide ((1 : Int) ≤ (q.length : Int) ∧ (q.length : Int) ≤ 8) = bq from by rw [hbq, decide_eq_decide]; omega] at hn
       have HQ := Aside0.mk hq
       have HBQ := Aside0.mk hbq
       clear hq hbq PI
       cases bq
       ·have hrF : r = false := by
         rw [HR.out]
         refine formed_f2 (?_)
         rw [← HTk.out]
         rw [List.all_eq_false]
         exact ⟨q, by rw [HQ.out]; exact List.mem_take_iff_getElem.2 ⟨i, by omega, rfl⟩, by rw [← HBQ.out]; decide⟩
        subst hrF
        go_wp2_with (go_at_call 29; refine hn.mono ?_; clear hn; rintro e W6 ⟨rfl, hd⟩; have HD6 := Aside0.mk hd; clear hd)
        go_ret
        exact ⟨rfl, HB4.out.trans ((HB5.out.trans ((HB6.out.trans (HD6.out.below.mono HB6.out.size)).mono HB5.out.size)).mono HB4.out.size)⟩
       ·go_wp2_with (go_at_call 29; refine hn.mono ?_; clear hn; rintro e W6 ⟨rfl, hd⟩; have HD6 := Aside0.mk hd; clear hd)
        go_roundg (m - (i + 1))
        case measure => omega
        case rel => exact ⟨i + 1, by go_num, by omega, by omega, ⟨HB6.out.trans (HD6.out.below.mono HB6.out.size)⟩, ⟨by rw [take_all _ _ i hltL, HA.out, ← HQ.out, ← HBQ.out]; rfl⟩⟩
      ·obtain rfl : i = m := by omega
       have hA2 := HA.out
       rw [HTk.out] at hA2
       have HA2 := Aside0.mk hA2
       obtain ⟨W6, rfl⟩ : ∃ W6, W6 = wr := ⟨_, rfl⟩
       have him : i < LL.length := by omega
       obtain ⟨ad, B, c, rfl, hcell, hlc, hCT⟩ := SL.out W6 HB6.out i him
       rw [HLt.out him] at hcell hlc hCT
       obtain ⟨T, hT⟩ : ∃ T, T = topOf l0 l1 := ⟨_, rfl⟩
       rw [← hT] at hcell hlc hCT
       have hT20 := Aside0.mk (by have := HT20.out; rw [← hT] at this; exact this)
       have hTn : T.length ≤ 1000 := by rw [hT]; simp [topOf]; omega
       have ST := Aside0.mk (fun (W : World) (hW : Below W6.heap.size W6 W) => str_at (Kd.C_below hCT hW))
       have HT := Aside0.mk hT
       have hil : (i : Int) < (i : Int) + 1 := by omega
       clear hA2 HA SL HC1 hCT hT
       go_upto_region 17 with fail
       go_loopg [61] T.length (fun gg v61 wr => ∃ j : Nat, v61 = .int .i64 j ∧ j ≤ T.length ∧ T.length - j ≤ gg ∧ Aside0 (Below W6.heap.size W6 wr) ∧ Aside0 ((T.take j).all (fun s => baseSize s == 0) = true))
       case atStart => exact ⟨0, rfl, by omega, by omega, ⟨Below.refl _ _⟩, ⟨rfl⟩⟩
       case round =>
        obtain ⟨j, rfl, hj, hgj, HB7, HAj⟩ := hrel
        have HB9 := Aside0.mk (show Below w.heap.size w wr from HB4.out.trans ((HB5.out.trans ((HB6.out.trans (HB7.out.mono HB6.out.size)).mono HB5.out.size)).mono HB4.out.size))
        by_cases hltj : j < T.length
        ·obtain ⟨ad2, rfl, hcell2⟩ := ST.out wr HB7.out j hltj
         have hltj' : (j : Int) < (T.length : Int) := by omega
         obtain ⟨q, hq⟩ : ∃ q, q = T[j] := ⟨_, rfl⟩
         rw [← hq] at hcell2
         obtain ⟨hgw, hkw⟩ := PG.out wr HB9.out q (by rw [hq]; exact hT20.out _ (List.getElem_mem _))
         have HQ := Aside0.mk hq
         clear hq hcell PI
         by_cases hz : baseSize q = 0
         ·rw [hz] at hkw
          have HZ := Aside0.mk hz
          clear hz
          go_wp2_with fail
          go_roundg (T.length - (j + 1))
          case measure => omega
          case rel => exact ⟨j + 1, by go_num, by omega, by omega, HB7, ⟨by rw [take_all _ _ j hltj, HAj.out, ← HQ.out, HZ.out]; rfl⟩⟩
         ·have hz1 : (baseSize q != 0) = true := by simp [hz]
          rw [hz1] at hkw
          have hrF : r = false := by
           rw [HR.out]
           refine formed_f3 (?_)
           rw [← HT.out]
           exact all_false _ _ j hltj (by rw [← HQ.out]; simp [hz])
          subst hrF
          clear hz1 hz
          go_wp2_with fail
          go_ret
          exact ⟨rfl, HB9.out⟩
        ·obtain rfl : j = T.length := by omega
         have hA3 := HAj.out
         rw [List.take_length, HT.out] at hA3
         have hv := PV.out wr HB9.out
         rw [← formed_f4 HG0.out HG1.out (by rw [← HLL.out, ← HAL.out]; exact HA1.out) HA2.out hA3, ← HR.out] at hv
         obtain ⟨z0, z1⟩ := PC.out wr ((HB13.out.trans ((HB5.out.trans ((HB6.out.trans (HB7.out.mono HB6.out.size)).mono HB5.out.size)).mono HB13.out.size)))
         clear hA3 hcell PI
         go_wp2_with (go_at_call 14; refine hv.mono ?_; clear hv; rintro e W8 ⟨rfl, hb8⟩; have HB8 := Aside0.mk hb8; clear hb8)
         go_ret
         exact ⟨rfl, HB9.out.trans (HB8.out.mono HB9.out.size)⟩
end
end Go.Proofs.YtjeipkfeihahdaaDoor
