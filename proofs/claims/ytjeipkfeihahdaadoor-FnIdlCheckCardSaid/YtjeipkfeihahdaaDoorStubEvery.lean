/- Whether something holds for all fields of all structs of a schema: every, walked against whatever function value. -/
import Derived.Test.YtjeipkfeihahdaaDoorStubSchema
namespace Go.Proofs.YtjeipkfeihahdaaDoor
set_option linter.unusedVariables false
set_option linter.unusedSimpArgs false
open Go.RowKit Go.Proofs.YtjeipkfeihahdaaDoor.P Go.Proofs.YtjeipkfeihahdaaDoor.Lem Go.Proofs.YtjeipkfeihahdaaDoorW.PrintWords Go.Proofs.YtjeipkfeihahdaaDoorW.PrintLast Go.Proofs.YtjeipkfeihahdaaDoorW.PrintMore
section
variable {A0 A1 : Option Addr} {c0 c1 : Nat} {l0 : List SS} {l1 : List SE}
theorem struct_at {W : World} (h : Kd.C k32 W A0 l0.length l0) (i : Nat) (hi : i < l0.length) : ∃ ad A c, A0 = some ad ∧ W.cell? (ad.add (i * 2)) = some (.string l0[i].f0) ∧ W.cell? ⟨(ad.add (i * 2)).block, (ad.add (i * 2)).off + 1, none⟩ = some (.slice A l0[i].f1.length c) ∧ l0[i].f1.length ≤ c ∧ Kd.C k36 W A l0[i].f1.length l0[i].f1 := by
  obtain ⟨ad, A, c, e, h1, h2, h3, h4⟩ := at_T32 h (i : Int) (by omega) (by omega)
  rw [rdS_at l0 i hi] at h1 h2 h3 h4
  exact ⟨ad, A, c, e, h1, h2, h3, h4⟩
theorem decl_at {W : World} {A : Option Addr} {l : List SD} (h : Kd.C k36 W A l.length l) (i : Nat) (hi : i < l.length) : ∃ ad, A = some ad ∧ W.cell? (ad.add (i * 6)) = some (.string l[i].f0) ∧ W.cell? ⟨(ad.add (i * 6)).block, (ad.add (i * 6)).off + 1, none⟩ = some (.int .i64 l[i].f1) ∧ W.cell? ⟨(ad.add (i * 6)).block, (ad.add (i * 6)).off + 2, none⟩ = some (.string l[i].f2.f0) ∧ W.cell? ⟨(ad.add (i * 6)).block, (ad.add (i * 6)).off + 3, none⟩ = some (.bool l[i].f2.f1) ∧ W.cell? ⟨(ad.add (i * 6)).block, (ad.add (i * 6)).off + 4, none⟩ = some (.bool l[i].f3) ∧ W.cell? ⟨(ad.add (i * 6)).block, (ad.add (i * 6)).off + 5, none⟩ = some (.int .i64 l[i].f4) := by
  obtain ⟨ad, e, h1, h2, h3, h4, h5, h6⟩ := at_T36 h (i : Int) (by omega) (by omega)
  rw [rdD_at l i hi] at h1 h2 h3 h4 h5 h6
  exact ⟨ad, e, h1, h2, h3, h4, h5, h6⟩
theorem take_all {α : Type} (l : List α) (p : α → Bool) (i : Nat) (hi : i < l.length) : (l.take (i + 1)).all p = ((l.take i).all p && p l[i]) := by
  rw [List.take_add_one, List.all_append]
  simp [hi]
theorem all_false {α : Type} (l : List α) (p : α → Bool) (i : Nat) (hi : i < l.length) (h : p l[i] = false) : l.all p = false := by
  rw [List.all_eq_false]
  exact ⟨l[i], List.getElem_mem _, by simp [h]⟩
set_option maxHeartbeats 4000000 in
set_option maxRecDepth 100000 in
theorem every_calls (g : Nat) (cb : Array Value) (eg : ∀ args w, (callFunc g args).run Tryd.prog w = .ok (.enter g args) w) (p : SD → Bool) (w : World) (hS : Small l0 l1) (h : SchAt w A0 c0 l0 A1 c1 l1)
    (hp : ∀ W, Below w.heap.size w W → ∀ d ∈ l0, ∀ x ∈ d.f1, Calls Tryd.prog g (#[aggD x] ++ cb) W fun e w' => e = .returned (.bool (p x)) ∧ Below W.heap.size W w') :
    Calls Tryd.prog 14 #[schV A0 c0 l0 A1 c1 l1, .func (.func g) #[] cb] w fun e w' => e = .returned (.bool (allD l0 p)) ∧ Below w.heap.size w w' := by
  have n0 := hS.n0
  have nd : ∀ d ∈ l0, d.f1.length ≤ 10 := fun d hd => (hS.s0 d hd).2.1
  have PS := Aside0.mk (fun (W : World) (hW : Below w.heap.size w W) => struct_at (Kd.C_below h.h0 hW))
  have HP := Aside0.mk hp
  have ND := Aside0.mk nd
  clear hp nd h hS
  go_enter Tryd.func14, Tryd.ntmps14
  go_upto_region 2 with fail
  obtain ⟨W1, hW1⟩ : ∃ W1, W1 = w.alloc (.cells #[.slice A0 l0.length c0, .slice A1 l1.length c1] 26) := ⟨_, rfl⟩
  rw [← hW1]
  have HB1 := Aside0.mk (show Below w.heap.size w W1 from by rw [hW1]; exact below_alloc (Below.refl _ _) _)
  clear hW1
  go_loopg [12] l0.length (fun gg v12 wr => ∃ i : Nat, v12 = .int .i64 i ∧ i ≤ l0.length ∧ l0.length - i ≤ gg ∧ Aside0 (Below w.heap.size w wr) ∧ Aside0 ((l0.take i).all (fun d => d.f1.all p) = true))
  case atStart => exact ⟨0, rfl, by omega, by omega, HB1, ⟨rfl⟩⟩
  case round =>
    obtain ⟨i, rfl, hi, hgg, HB2, HA⟩ := hrel
    obtain ⟨W2, rfl⟩ : ∃ W2, W2 = wr := ⟨_, rfl⟩
    by_cases hlt : i < l0.length
    · obtain ⟨ad, A, c, rfl, h1, h2, h3, h4⟩ := PS.out W2 HB2.out i hlt
      have hlt' : (i : Int) < (l0.length : Int) := by omega
      obtain ⟨d, hd⟩ : ∃ d, d = l0[i] := ⟨_, rfl⟩
      have hdm : d ∈ l0 := by rw [hd]; exact List.getElem_mem _
      have hd10 := ND.out d hdm
      rw [← hd] at h1 h2 h3 h4
      have HD := Aside0.mk hd
      have HM := Aside0.mk hdm
      clear hd hdm h3
      obtain ⟨W3, hW3⟩ : ∃ W3, W3 = W2.alloc (.cells #[.string d.f0, .slice A d.f1.length c] 32) := ⟨_, rfl⟩
      have hb3 : Below W2.heap.size W2 W3 := by rw [hW3]; exact below_alloc (Below.refl _ _) _
      have x0 : W3.cell? ⟨W2.heap.size, 0, none⟩ = some (.string d.f0) := by rw [hW3]; simp
      have x1 : W3.cell? ⟨W2.heap.size, 1, none⟩ = some (.slice A d.f1.length c) := by rw [hW3]; simp
      have HW3 := Aside0.mk hW3
      have HB3 := Aside0.mk (show Below w.heap.size w W3 from HB2.out.trans (hb3.mono HB2.out.size))
      have PD := Aside0.mk (fun (W : World) (hW : Below W3.heap.size W3 W) => decl_at (Kd.C_below (Kd.C_below h4 hb3) hW))
      clear hW3 hb3 h4
      go_upto_region 4 with fail
      rw [← HW3.out]
      go_upto_region 5 with fail
      clear x0 x1 h1 h2
      go_loopg [19] d.f1.length (fun gg v19 wr => ∃ j : Nat, v19 = .int .i64 j ∧ j ≤ d.f1.length ∧ d.f1.length - j ≤ gg ∧ Aside0 (Below W3.heap.size W3 wr) ∧ Aside0 ((d.f1.take j).all p = true))
      case atStart => exact ⟨0, rfl, by omega, by omega, ⟨Below.refl _ _⟩, ⟨rfl⟩⟩
      case round =>
        obtain ⟨j, rfl, hj, hgj, HB4, HAj⟩ := hrel
        by_cases hltj : j < d.f1.length
        · obtain ⟨ad2, rfl, e0, e1, e2, e3, e4, e5⟩ := PD.out wr HB4.out j hltj
          have hltj' : (j : Int) < (d.f1.length : Int) := by omega
          obtain ⟨x, hx⟩ : ∃ x, x = d.f1[j] := ⟨_, rfl⟩
          have hxm : x ∈ d.f1 := by rw [hx]; exact List.getElem_mem _
          rw [← hx] at e0 e1 e2 e3 e4 e5
          have hp5 := HP.out (wr.alloc (blkD x)) (below_alloc (HB3.out.trans (HB4.out.mono HB3.out.size)) _) d HM.out x hxm
          obtain ⟨f0, f1, f2, f3, f4, f5⟩ := at6_new wr x
          have HX := Aside0.mk hx
          clear hx hxm
          obtain ⟨px, hpx0⟩ : ∃ q, q = p x := ⟨_, rfl⟩
          rw [← hpx0] at hp5
          have HPX := Aside0.mk hpx0.symm
          clear hpx0
          cases px
          · go_wp2_with (first | (go_at_fn g; refine hp5.mono ?_; clear hp5; rintro e W5 ⟨rfl, hb5⟩; have HB5 := Aside0.mk hb5; clear hb5))
            go_ret
            have hpx := HPX.out
            refine ⟨?_, HB3.out.trans ((HB4.out.trans ((below_alloc (Below.refl _ _) _).trans (HB5.out.mono (by rw [World.size_alloc]; exact Nat.le_succ _)) |>.mono HB4.out.size)).mono HB3.out.size)⟩
            have e1 : d.f1.all p = false := all_false d.f1 p j hltj (by rw [← HX.out]; exact hpx)
            have e2 : allD l0 p = false := all_false l0 _ i hlt (by rw [← HD.out]; exact e1)
            rw [e2]; rfl
          · go_wp2_with (first | (go_at_fn g; refine hp5.mono ?_; clear hp5; rintro e W5 ⟨rfl, hb5⟩; have HB5 := Aside0.mk hb5; clear hb5))
            have hpx := HPX.out
            go_roundg (d.f1.length - (j + 1))
            case measure => omega
            case rel =>
              refine ⟨j + 1, by go_num, by omega, by omega, ⟨HB4.out.trans ((below_alloc (Below.refl _ _) _).trans (HB5.out.mono (by rw [World.size_alloc]; exact Nat.le_succ _)) |>.mono HB4.out.size)⟩, ⟨?_⟩⟩
              rw [take_all _ _ j hltj, HAj.out, ← HX.out, hpx]
              rfl
        · obtain rfl : j = d.f1.length := by omega
          go_wp2_with fail
          go_roundg (l0.length - (i + 1))
          case measure => omega
          case rel =>
            refine ⟨i + 1, by go_num, by omega, by omega, ⟨HB3.out.trans (HB4.out.mono HB3.out.size)⟩, ⟨?_⟩⟩
            have e1 := HAj.out
            rw [List.take_length] at e1
            rw [take_all _ _ i hlt, HA.out, ← HD.out, e1]
            rfl
    · obtain rfl : i = l0.length := by omega
      go_wp2_with fail
      go_ret
      have e1 := HA.out
      rw [List.take_length] at e1
      exact ⟨by unfold allD; rw [e1]; rfl, HB2.out⟩
end
end Go.Proofs.YtjeipkfeihahdaaDoor
