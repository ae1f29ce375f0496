/- When two nodes are the same; the functions that compare nodes, walked. -/
import Derived.Test.YtjiidjlmdibhdaaProg
import Derived.Test.YtjiidjlmdibhdaaPx0
import Derived.Deep.CutRange
import Derived.Deep.DeepCutAuto
namespace Go.Proofs.Ytjiidjlmdibhdaa
set_option linter.unusedVariables false
set_option linter.unusedSimpArgs false
open Go.RowKit Go.Proofs.Ytjiidjlmdibhdaa.P Go.Proofs.YtjiidjlmdibhdaaW.PrintWords Go.Proofs.YtjiidjlmdibhdaaW.PrintLast Go.Proofs.YtjiidjlmdibhdaaW.PrintMore
theorem w64 {n : Int} (h0 : -9223372036854775808 ≤ n) (h1 : n < 9223372036854775808) : wrap64 n = n := by unfold wrap64; omega
mutual
/-- Whether two nodes are the same. -/
def sameV : S29 → S29 → Bool
  | ⟨k, d, p, s, c, i⟩, ⟨k', d', p', s', c', i'⟩ => k == k' && decide (d.toList = d'.toList) && s == s' && c == c' && sameL p p' && sameL i i'
def sameL : List S29 → List S29 → Bool
  | [], [] => true
  | x :: l, y :: m => sameV x y && sameL l m
  | [], _ :: _ => false
  | _ :: _, [] => false
end
theorem sameV_def (x y : S29) : sameV x y = (x.f0 == y.f0 && decide (x.f1.toList = y.f1.toList) && x.f3 == y.f3 && x.f4 == y.f4 && sameL x.f2 y.f2 && sameL x.f5 y.f5) := by
  cases x; cases y; rfl
mutual
theorem sameV_refl : ∀ x : S29, sameV x x = true
  | ⟨k, d, p, s, c, i⟩ => by simp [sameV, sameL_refl p, sameL_refl i]
theorem sameL_refl : ∀ l : List S29, sameL l l = true
  | [] => by simp [sameL]
  | x :: l => by simp [sameL, sameV_refl x, sameL_refl l]
end
theorem icomm (a b : Int) : (a == b) = (b == a) := Bool.eq_iff_iff.mpr ⟨fun h => beq_iff_eq.mpr (beq_iff_eq.mp h).symm, fun h => beq_iff_eq.mpr (beq_iff_eq.mp h).symm⟩
mutual
theorem sameV_comm : ∀ x y : S29, sameV x y = sameV y x
  | ⟨k, d, p, s, c, i⟩, ⟨k', d', p', s', c', i'⟩ => by
    have e1 : (k == k') = (k' == k) := icomm _ _
    have e2 : decide (d.toList = d'.toList) = decide (d'.toList = d.toList) := decide_eq_decide.mpr ⟨Eq.symm, Eq.symm⟩
    have e3 : (s == s') = (s' == s) := icomm _ _
    have e4 : (c == c') = (c' == c) := icomm _ _
    simp only [sameV]
    rw [sameL_comm p p', sameL_comm i i', e1, e2, e3, e4]
theorem sameL_comm : ∀ l m : List S29, sameL l m = sameL m l
  | [], [] => rfl
  | [], _ :: _ => by simp [sameL]
  | _ :: _, [] => by simp [sameL]
  | x :: l, y :: m => by simp only [sameL]; rw [sameV_comm x y, sameL_comm l m]
end
theorem sameL_length : ∀ {l m : List S29}, sameL l m = true → l.length = m.length
  | [], [], _ => rfl
  | [], _ :: _, h => by simp [sameL] at h
  | _ :: _, [], h => by simp [sameL] at h
  | x :: l, y :: m, h => by
    simp only [sameL, Bool.and_eq_true] at h
    simp [sameL_length h.2]
theorem rdN (l : List S29) (i : Nat) (h : i < l.length) : rd_T29 l (i : Int) = l[i] := by
  unfold rd_T29
  rw [Int.toNat_natCast, List.getD_eq_getElem?_getD, List.getElem?_eq_getElem h, Option.getD_some]
/-- From the j-th on. -/
theorem sameL_drop {l m : List S29} {j : Nat} (hl : j < l.length) (hm : j < m.length) : sameL (l.drop j) (m.drop j) = (sameV (rd_T29 l (j : Int)) (rd_T29 m (j : Int)) && sameL (l.drop (j + 1)) (m.drop (j + 1))) := by
  rw [List.drop_eq_getElem_cons hl, List.drop_eq_getElem_cons hm, rdN l j hl, rdN m j hm]
  simp only [sameL]
mutual
/-- How great a node is. -/
def ndSize : S29 → Nat
  | ⟨_, _, p, _, _, i⟩ => 1 + ndSizes p + ndSizes i
def ndSizes : List S29 → Nat
  | [] => 0
  | x :: l => ndSize x + 1 + ndSizes l
end
theorem ndSize_mem : ∀ {l : List S29} {x : S29}, x ∈ l → ndSize x < ndSizes l
  | y :: l, x, h => by
    unfold ndSizes
    rcases List.mem_cons.mp h with rfl | h
    · omega
    · have := ndSize_mem h
      omega
/-- What holds of a node if it holds of all within it holds of every node. -/
theorem nd_all {F : S29 → Prop} (H : ∀ x, (∀ y ∈ x.f2, F y) → (∀ y ∈ x.f5, F y) → F x) (x : S29) : F x := by
  have key : ∀ (n : Nat) (x : S29), ndSize x < n → F x := by
    intro n
    induction n with
    | zero => intro x h; omega
    | succ n ih =>
      intro x h
      obtain ⟨k, d, p, s, c, i⟩ := x
      have e : ndSize ⟨k, d, p, s, c, i⟩ = 1 + ndSizes p + ndSizes i := by simp [ndSize]
      rw [e] at h
      refine H _ (fun y hy => ih y ?_) (fun y hy => ih y ?_)
      · have : ndSize y < ndSizes p := ndSize_mem hy
        omega
      · have : ndSize y < ndSizes i := ndSize_mem hy
        omega
  exact key _ x (Nat.lt_succ_self _)
/-- A node by value. -/
abbrev aggV (x : S29) (A2 : Option Addr) (c2 : Nat) (A5 : Option Addr) (c5 : Nat) : Value := .agg #[.int .i64 x.f0, .string x.f1, .slice A2 x.f2.length c2, .int .i64 x.f3, .int .i64 x.f4, .slice A5 x.f5.length c5]
/-- That function f compares x with any node. -/
def EqC (f : Nat) (x : S29) : Prop := ∀ (y : S29) (A2 A5 B2 B5 : Option Addr) (c2 c5 d2 d5 : Nat) (w : World), Kd.C k29 w A2 x.f2.length x.f2 → x.f2.length ≤ c2 → Kd.C k29 w A5 x.f5.length x.f5 → x.f5.length ≤ c5 → Kd.C k29 w B2 y.f2.length y.f2 → y.f2.length ≤ d2 → Kd.C k29 w B5 y.f5.length y.f5 → y.f5.length ≤ d5 →
    Calls Try.prog f #[aggV x A2 c2 A5 c5, aggV y B2 d2 B5 d5] w fun e w' => e = .returned (.bool (sameV x y)) ∧ Below w.heap.size w w'
/-- That function f compares l with any row. -/
def EqL (f : Nat) (l : List S29) : Prop := ∀ (m : List S29) (A B : Option Addr) (c d : Nat) (w : World), Kd.C k29 w A l.length l → l.length ≤ c → Kd.C k29 w B m.length m → m.length ≤ d →
    Calls Try.prog f #[.slice A l.length c, .slice B m.length d] w fun e w' => e = .returned (.bool (sameL l m)) ∧ Below w.heap.size w w'
set_option maxHeartbeats 4000000 in
set_option maxRecDepth 100000 in
theorem eqNodeS_of (l : List S29) (H : ∀ x ∈ l, EqC 10 x) : EqL 21 l := by
  intro m A B c d w hA hc hB hd
  have HH := Aside0.mk H
  have HA := Aside0.mk hA
  have HB := Aside0.mk hB
  clear H hA hB
  by_cases hn : l.length = m.length
  · have hne : ((l.length : Int) != (m.length : Int)) = false := bne_eq_false_iff_eq.mpr (by rw [hn])
    have HN := Aside0.mk hn
    have HM := Aside0.mk HA.out.2.1
    clear hn
    go_enter Try.func21, Try.ntmps21
    go_wp2
    go_loopg [5] l.length (fun gg s5 wr => ∃ j : Nat, s5 = .int .i64 j ∧ Aside0 (j ≤ l.length ∧ l.length - j ≤ gg) ∧ Aside0 (Below w.heap.size w wr) ∧ Aside0 (sameL l m = sameL (l.drop j) (m.drop j)))
    case atStart => exact ⟨0, rfl, ⟨Nat.zero_le _, by omega⟩, ⟨Below.refl _ _⟩, ⟨rfl⟩⟩
    case round =>
      obtain ⟨j, rfl, HK, HBr, HS⟩ := hrel
      by_cases hlt : j < l.length
      · have hltz : (j : Int) < (l.length : Int) := by omega
        have hltm : (j : Int) < (m.length : Int) := by rw [← HN.out]; exact hltz
        obtain ⟨ad, A2, c2, A5, c5, e, x0, x1, x2, x3, x4, x5, l2, g2, l5, g5⟩ := at_T29 HA.out (j : Int) (by omega) hltz
        obtain ⟨bd, B2, d2, B5, d5, e', y0, y1, y2, y3, y4, y5, m2, h2, m5, h5⟩ := at_T29 HB.out (j : Int) (by omega) hltm
        subst e e'
        rw [Int.toNat_natCast] at x0 x1 x2 x3 x4 x5 y0 y1 y2 y3 y4 y5
        have hd1 := sameL_drop hlt (by rw [← HN.out]; exact hlt : j < m.length)
        have hx := HH.out (rd_T29 l (j : Int)) (by rw [rdN l j hlt]; exact List.getElem_mem hlt)
        rw [hd1] at HS
        clear hd1
        generalize rd_T29 l (j : Int) = x at *
        generalize rd_T29 m (j : Int) = y at *
        have hb1 := below_drew HBr.out
        have mv : ∀ {p : Addr} {u : Value}, w.cell? p = some u → wr.cell? p = some u := fun {p u} h => (HBr.out.cell (World.block_lt_of_cell? w _ h)).trans h
        have hcall := hx y A2 A5 B2 B5 c2 c5 d2 d5 wr.drew (Kd.C_below g2 hb1) l2 (Kd.C_below g5 hb1) l5 (Kd.C_below h2 hb1) m2 (Kd.C_below h5 hb1) m5
        replace x0 := mv x0
        replace x1 := mv x1
        replace x2 := mv x2
        replace x3 := mv x3
        replace x4 := mv x4
        replace x5 := mv x5
        replace y0 := mv y0
        replace y1 := mv y1
        replace y2 := mv y2
        replace y3 := mv y3
        replace y4 := mv y4
        replace y5 := mv y5
        clear mv hx g2 g5 h2 h5 l2 l5 m2 m5 hlt
        replace hb1 := Aside0.mk hb1
        have hwj : wrap64 ((j : Int) + 1) = (j : Int) + 1 := w64 (by omega) (by have := HM.out; have := HK.out; omega)
        have HWJ := Aside0.mk hwj
        clear hwj
        cases hv : sameV x y with
        | true =>
          rw [hv] at hcall HS
          clear hv
          go_wp2
          refine start_ (n := 10) (S := fun w' => w'.cell? (ad.add (j * 6)) = some (.int .i64 x.f0) ∧ w'.cell? ⟨(ad.add (j * 6)).block, (ad.add (j * 6)).off + 1, none⟩ = some (.string x.f1) ∧ w'.cell? ⟨(ad.add (j * 6)).block, (ad.add (j * 6)).off + 2, none⟩ = some (.slice A2 x.f2.length c2) ∧ w'.cell? ⟨(ad.add (j * 6)).block, (ad.add (j * 6)).off + 3, none⟩ = some (.int .i64 x.f3) ∧ w'.cell? ⟨(ad.add (j * 6)).block, (ad.add (j * 6)).off + 4, none⟩ = some (.int .i64 x.f4) ∧ w'.cell? ⟨(ad.add (j * 6)).block, (ad.add (j * 6)).off + 5, none⟩ = some (.slice A5 x.f5.length c5) ∧ w'.cell? (bd.add (j * 6)) = some (.int .i64 y.f0) ∧ w'.cell? ⟨(bd.add (j * 6)).block, (bd.add (j * 6)).off + 1, none⟩ = some (.string y.f1) ∧ w'.cell? ⟨(bd.add (j * 6)).block, (bd.add (j * 6)).off + 2, none⟩ = some (.slice B2 y.f2.length d2) ∧ w'.cell? ⟨(bd.add (j * 6)).block, (bd.add (j * 6)).off + 3, none⟩ = some (.int .i64 y.f3) ∧ w'.cell? ⟨(bd.add (j * 6)).block, (bd.add (j * 6)).off + 4, none⟩ = some (.int .i64 y.f4) ∧ w'.cell? ⟨(bd.add (j * 6)).block, (bd.add (j * 6)).off + 5, none⟩ = some (.slice B5 y.f5.length d5)) (ds := []) #[false, false, false, false, false, false, false, false, false, false] (by kernel_rfl) rfl rfl ⟨x0, x1, x2, x3, x4, x5, y0, y1, y2, y3, y4, y5⟩ (fun hHeld => ?_)
          refine pure_ (i := 0) (N := some 17) (v := ?_) (a' := ?_) #[true, false, false, false, false, false, false, false, false, false] rfl rfl (by kernel_rfl) (fun _ _ _ h => h) (Or.inl ⟨by rfl, ?_⟩) ?_ ?_
          rotate_left
          · intro w'
            go_simp
            with_reducible rfl
          rotate_left
          · simp only [Act.put, List.setIfInBounds_toArray, List.set_cons_zero, List.set_cons_succ, i64_w, i32_w]
            rfl
          refine pure_ (i := 1) (N := some 18) (v := ?_) (a' := ?_) #[true, true, false, false, false, false, false, false, false, false] rfl rfl (by kernel_rfl) (fun _ _ _ h => h) (Or.inl ⟨by rfl, ?_⟩) ?_ ?_
          rotate_left
          · intro w'
            go_simp
            with_reducible rfl
          rotate_left
          · simp only [Act.put, List.setIfInBounds_toArray, List.set_cons_zero, List.set_cons_succ, i64_w, i32_w]
            rfl
          refine pure_ (i := 2) (N := some 19) (v := ?_) (a' := ?_) #[true, true, true, false, false, false, false, false, false, false] rfl rfl (by kernel_rfl) (fun _ _ _ h => h) (Or.inl ⟨by rfl, ?_⟩) ?_ ?_
          rotate_left
          · intro w'
            go_simp
            with_reducible rfl
          rotate_left
          · simp only [Act.put, List.setIfInBounds_toArray, List.set_cons_zero, List.set_cons_succ, i64_w, i32_w]
            rfl
          refine pure_ (i := 4) (N := some 21) (v := ?_) (a' := ?_) #[true, true, true, false, true, false, false, false, false, false] rfl rfl (by kernel_rfl) (fun _ _ _ h => h) (Or.inl ⟨by rfl, ?_⟩) ?_ ?_
          rotate_left
          · intro w'
            go_simp
            with_reducible rfl
          rotate_left
          · simp only [Act.put, List.setIfInBounds_toArray, List.set_cons_zero, List.set_cons_succ, i64_w, i32_w]
            rfl
          refine pure_ (i := 5) (N := some 22) (v := ?_) (a' := ?_) #[true, true, true, false, true, true, false, false, false, false] rfl rfl (by kernel_rfl) (fun _ _ _ h => h) (Or.inl ⟨by rfl, ?_⟩) ?_ ?_
          rotate_left
          · intro w'
            go_simp
            with_reducible rfl
          rotate_left
          · simp only [Act.put, List.setIfInBounds_toArray, List.set_cons_zero, List.set_cons_succ, i64_w, i32_w]
            rfl
          refine pure_ (i := 6) (N := some 23) (v := ?_) (a' := ?_) #[true, true, true, false, true, true, true, false, false, false] rfl rfl (by kernel_rfl) (fun _ _ _ h => h) (Or.inl ⟨by rfl, ?_⟩) ?_ ?_
          rotate_left
          · intro w'
            go_simp
            with_reducible rfl
          rotate_left
          · simp only [Act.put, List.setIfInBounds_toArray, List.set_cons_zero, List.set_cons_succ, i64_w, i32_w]
            rfl
          refine take_ (i := 3) (N := some 20) (v := ?_) (a' := ?_) #[true, true, true, true, true, true, true, false, false, false] rfl rfl (by kernel_rfl) (fun _ _ _ h => h) (Or.inl ⟨by rfl, ?_⟩) hHeld ?_ ?_
          rotate_left
          · rintro w' ⟨s0, s1, s2, s3, s4, s5, s6, s7, s8, s9, s10, s11⟩
            go_simp
            with_reducible rfl
          rotate_left
          · simp only [Act.put, List.setIfInBounds_toArray, List.set_cons_zero, List.set_cons_succ, i64_w, i32_w]
            rfl
          refine take_ (i := 7) (N := some 24) (v := ?_) (a' := ?_) #[true, true, true, true, true, true, true, true, false, false] rfl rfl (by kernel_rfl) (fun _ _ _ h => h) (Or.inl ⟨by rfl, ?_⟩) hHeld ?_ ?_
          rotate_left
          · rintro w' ⟨s0, s1, s2, s3, s4, s5, s6, s7, s8, s9, s10, s11⟩
            go_simp
            with_reducible rfl
          rotate_left
          · simp only [Act.put, List.setIfInBounds_toArray, List.set_cons_zero, List.set_cons_succ, i64_w, i32_w]
            rfl
          refine one_ (i := 8) (N := some 25) #[true, true, true, true, true, true, true, true, true, false] rfl rfl (by kernel_rfl) (by decide) (fun K hK => ?_)
          refine goes_ Try.func10 (by kernel_rfl) rfl #[aggV x A2 c2 A5 c5, aggV y B2 d2 B5 d5] (by rfl) rfl rfl (by simp only [List.map_toArray, List.map_cons, List.map_nil]; rfl) ?_
          with_reducible refine (hcall).mono ?_
          rintro e w9 ⟨rfl, hb9⟩
          refine ⟨_, rfl, ?_⟩
          have HB9 := Aside0.mk (below_step hb1.out hb9)
          refine hK.out _ _ ⟨(hb9.cell (World.block_lt_of_cell? _ _ x0)).trans x0, (hb9.cell (World.block_lt_of_cell? _ _ x1)).trans x1, (hb9.cell (World.block_lt_of_cell? _ _ x2)).trans x2, (hb9.cell (World.block_lt_of_cell? _ _ x3)).trans x3, (hb9.cell (World.block_lt_of_cell? _ _ x4)).trans x4, (hb9.cell (World.block_lt_of_cell? _ _ x5)).trans x5, (hb9.cell (World.block_lt_of_cell? _ _ y0)).trans y0, (hb9.cell (World.block_lt_of_cell? _ _ y1)).trans y1, (hb9.cell (World.block_lt_of_cell? _ _ y2)).trans y2, (hb9.cell (World.block_lt_of_cell? _ _ y3)).trans y3, (hb9.cell (World.block_lt_of_cell? _ _ y4)).trans y4, (hb9.cell (World.block_lt_of_cell? _ _ y5)).trans y5⟩ (fun hHeld => ?_)
          clear hK K
          refine norm_ (a' := ?_) ?_ ?_
          rotate_left
          · show Act.put _ (some 25) _ = _
            simp only [Act.put, List.setIfInBounds_toArray, List.set_cons_zero, List.set_cons_succ, i64_w, i32_w]
            rfl
          refine pure_ (i := 9) (N := some 26) (v := ?_) (a' := ?_) #[true, true, true, true, true, true, true, true, true, true] rfl rfl (by kernel_rfl) (fun _ _ _ h => h) (Or.inl ⟨by rfl, ?_⟩) ?_ ?_
          rotate_left
          · intro w'
            go_simp
            with_reducible rfl
          rotate_left
          · simp only [Act.put, List.setIfInBounds_toArray, List.set_cons_zero, List.set_cons_succ, i64_w, i32_w]
            rfl
          refine done_ (by kernel_rfl) ?_
          go_wp2
          go_roundg (l.length - (j + 1))
          case measure => have := HK.out; omega
          case rel => exact ⟨j + 1, by first | rfl | (rw [HWJ.out]; rfl), ⟨by omega, by omega⟩, ⟨HB9.out⟩, ⟨by rw [HS.out, Bool.true_and]⟩⟩
        | false =>
          rw [hv] at hcall HS
          clear hv
          go_wp2
          refine start_ (n := 10) (S := fun w' => w'.cell? (ad.add (j * 6)) = some (.int .i64 x.f0) ∧ w'.cell? ⟨(ad.add (j * 6)).block, (ad.add (j * 6)).off + 1, none⟩ = some (.string x.f1) ∧ w'.cell? ⟨(ad.add (j * 6)).block, (ad.add (j * 6)).off + 2, none⟩ = some (.slice A2 x.f2.length c2) ∧ w'.cell? ⟨(ad.add (j * 6)).block, (ad.add (j * 6)).off + 3, none⟩ = some (.int .i64 x.f3) ∧ w'.cell? ⟨(ad.add (j * 6)).block, (ad.add (j * 6)).off + 4, none⟩ = some (.int .i64 x.f4) ∧ w'.cell? ⟨(ad.add (j * 6)).block, (ad.add (j * 6)).off + 5, none⟩ = some (.slice A5 x.f5.length c5) ∧ w'.cell? (bd.add (j * 6)) = some (.int .i64 y.f0) ∧ w'.cell? ⟨(bd.add (j * 6)).block, (bd.add (j * 6)).off + 1, none⟩ = some (.string y.f1) ∧ w'.cell? ⟨(bd.add (j * 6)).block, (bd.add (j * 6)).off + 2, none⟩ = some (.slice B2 y.f2.length d2) ∧ w'.cell? ⟨(bd.add (j * 6)).block, (bd.add (j * 6)).off + 3, none⟩ = some (.int .i64 y.f3) ∧ w'.cell? ⟨(bd.add (j * 6)).block, (bd.add (j * 6)).off + 4, none⟩ = some (.int .i64 y.f4) ∧ w'.cell? ⟨(bd.add (j * 6)).block, (bd.add (j * 6)).off + 5, none⟩ = some (.slice B5 y.f5.length d5)) (ds := []) #[false, false, false, false, false, false, false, false, false, false] (by kernel_rfl) rfl rfl ⟨x0, x1, x2, x3, x4, x5, y0, y1, y2, y3, y4, y5⟩ (fun hHeld => ?_)
          refine pure_ (i := 0) (N := some 17) (v := ?_) (a' := ?_) #[true, false, false, false, false, false, false, false, false, false] rfl rfl (by kernel_rfl) (fun _ _ _ h => h) (Or.inl ⟨by rfl, ?_⟩) ?_ ?_
          rotate_left
          · intro w'
            go_simp
            with_reducible rfl
          rotate_left
          · simp only [Act.put, List.setIfInBounds_toArray, List.set_cons_zero, List.set_cons_succ, i64_w, i32_w]
            rfl
          refine pure_ (i := 1) (N := some 18) (v := ?_) (a' := ?_) #[true, true, false, false, false, false, false, false, false, false] rfl rfl (by kernel_rfl) (fun _ _ _ h => h) (Or.inl ⟨by rfl, ?_⟩) ?_ ?_
          rotate_left
          · intro w'
            go_simp
            with_reducible rfl
          rotate_left
          · simp only [Act.put, List.setIfInBounds_toArray, List.set_cons_zero, List.set_cons_succ, i64_w, i32_w]
            rfl
          refine pure_ (i := 2) (N := some 19) (v := ?_) (a' := ?_) #[true, true, true, false, false, false, false, false, false, false] rfl rfl (by kernel_rfl) (fun _ _ _ h => h) (Or.inl ⟨by rfl, ?_⟩) ?_ ?_
          rotate_left
          · intro w'
            go_simp
            with_reducible rfl
          rotate_left
          · simp only [Act.put, List.setIfInBounds_toArray, List.set_cons_zero, List.set_cons_succ, i64_w, i32_w]
            rfl
          refine pure_ (i := 4) (N := some 21) (v := ?_) (a' := ?_) #[true, true, true, false, true, false, false, false, false, false] rfl rfl (by kernel_rfl) (fun _ _ _ h => h) (Or.inl ⟨by rfl, ?_⟩) ?_ ?_
          rotate_left
          · intro w'
            go_simp
            with_reducible rfl
          rotate_left
          · simp only [Act.put, List.setIfInBounds_toArray, List.set_cons_zero, List.set_cons_succ, i64_w, i32_w]
            rfl
          refine pure_ (i := 5) (N := some 22) (v := ?_) (a' := ?_) #[true, true, true, false, true, true, false, false, false, false] rfl rfl (by kernel_rfl) (fun _ _ _ h => h) (Or.inl ⟨by rfl, ?_⟩) ?_ ?_
          rotate_left
          · intro w'
            go_simp
            with_reducible rfl
          rotate_left
          · simp only [Act.put, List.setIfInBounds_toArray, List.set_cons_zero, List.set_cons_succ, i64_w, i32_w]
            rfl
          refine pure_ (i := 6) (N := some 23) (v := ?_) (a' := ?_) #[true, true, true, false, true, true, true, false, false, false] rfl rfl (by kernel_rfl) (fun _ _ _ h => h) (Or.inl ⟨by rfl, ?_⟩) ?_ ?_
          rotate_left
          · intro w'
            go_simp
            with_reducible rfl
          rotate_left
          · simp only [Act.put, List.setIfInBounds_toArray, List.set_cons_zero, List.set_cons_succ, i64_w, i32_w]
            rfl
          refine take_ (i := 3) (N := some 20) (v := ?_) (a' := ?_) #[true, true, true, true, true, true, true, false, false, false] rfl rfl (by kernel_rfl) (fun _ _ _ h => h) (Or.inl ⟨by rfl, ?_⟩) hHeld ?_ ?_
          rotate_left
          · rintro w' ⟨s0, s1, s2, s3, s4, s5, s6, s7, s8, s9, s10, s11⟩
            go_simp
            with_reducible rfl
          rotate_left
          · simp only [Act.put, List.setIfInBounds_toArray, List.set_cons_zero, List.set_cons_succ, i64_w, i32_w]
            rfl
          refine take_ (i := 7) (N := some 24) (v := ?_) (a' := ?_) #[true, true, true, true, true, true, true, true, false, false] rfl rfl (by kernel_rfl) (fun _ _ _ h => h) (Or.inl ⟨by rfl, ?_⟩) hHeld ?_ ?_
          rotate_left
          · rintro w' ⟨s0, s1, s2, s3, s4, s5, s6, s7, s8, s9, s10, s11⟩
            go_simp
            with_reducible rfl
          rotate_left
          · simp only [Act.put, List.setIfInBounds_toArray, List.set_cons_zero, List.set_cons_succ, i64_w, i32_w]
            rfl
          refine one_ (i := 8) (N := some 25) #[true, true, true, true, true, true, true, true, true, false] rfl rfl (by kernel_rfl) (by decide) (fun K hK => ?_)
          refine goes_ Try.func10 (by kernel_rfl) rfl #[aggV x A2 c2 A5 c5, aggV y B2 d2 B5 d5] (by rfl) rfl rfl (by simp only [List.map_toArray, List.map_cons, List.map_nil]; rfl) ?_
          with_reducible refine (hcall).mono ?_
          rintro e w9 ⟨rfl, hb9⟩
          refine ⟨_, rfl, ?_⟩
          have HB9 := Aside0.mk (below_step hb1.out hb9)
          refine hK.out _ _ ⟨(hb9.cell (World.block_lt_of_cell? _ _ x0)).trans x0, (hb9.cell (World.block_lt_of_cell? _ _ x1)).trans x1, (hb9.cell (World.block_lt_of_cell? _ _ x2)).trans x2, (hb9.cell (World.block_lt_of_cell? _ _ x3)).trans x3, (hb9.cell (World.block_lt_of_cell? _ _ x4)).trans x4, (hb9.cell (World.block_lt_of_cell? _ _ x5)).trans x5, (hb9.cell (World.block_lt_of_cell? _ _ y0)).trans y0, (hb9.cell (World.block_lt_of_cell? _ _ y1)).trans y1, (hb9.cell (World.block_lt_of_cell? _ _ y2)).trans y2, (hb9.cell (World.block_lt_of_cell? _ _ y3)).trans y3, (hb9.cell (World.block_lt_of_cell? _ _ y4)).trans y4, (hb9.cell (World.block_lt_of_cell? _ _ y5)).trans y5⟩ (fun hHeld => ?_)
          clear hK K
          refine norm_ (a' := ?_) ?_ ?_
          rotate_left
          · show Act.put _ (some 25) _ = _
            simp only [Act.put, List.setIfInBounds_toArray, List.set_cons_zero, List.set_cons_succ, i64_w, i32_w]
            rfl
          refine pure_ (i := 9) (N := some 26) (v := ?_) (a' := ?_) #[true, true, true, true, true, true, true, true, true, true] rfl rfl (by kernel_rfl) (fun _ _ _ h => h) (Or.inl ⟨by rfl, ?_⟩) ?_ ?_
          rotate_left
          · intro w'
            go_simp
            with_reducible rfl
          rotate_left
          · simp only [Act.put, List.setIfInBounds_toArray, List.set_cons_zero, List.set_cons_succ, i64_w, i32_w]
            rfl
          refine done_ (by kernel_rfl) ?_
          go_wp2
          go_ret
          rw [HS.out]
          exact ⟨rfl, HB9.out⟩
      · have hltz : ¬ (j : Int) < (l.length : Int) := by omega
        have e : sameL l m = true := by
          rw [HS.out, List.drop_eq_nil_of_le (by omega), List.drop_eq_nil_of_le (by rw [← HN.out]; omega)]
          simp [sameL]
        have HE := Aside0.mk e
        clear e hlt
        go_wp2
        go_ret
        rw [HE.out]
        exact ⟨rfl, HBr.out⟩
  · have hne : ((l.length : Int) != (m.length : Int)) = true := bne_iff_ne.mpr (by omega)
    have e : sameL l m = false := by
      cases h : sameL l m with
      | false => rfl
      | true => exact absurd (sameL_length h) hn
    have HE := Aside0.mk e
    clear e hn
    go_enter Try.func21, Try.ntmps21
    go_wp2
    go_ret
    rw [HE.out]
    exact ⟨rfl, Below.refl _ _⟩
set_option maxHeartbeats 4000000 in
set_option maxRecDepth 100000 in
theorem eqNode_of (x : S29) (H2 : EqL 21 x.f2) (H5 : EqL 21 x.f5) : EqC 10 x := by
  intro y A2 A5 B2 B5 c2 c5 d2 d5 w hA2 hc2 hA5 hc5 hB2 hd2 hB5 hd5
  have HV := Aside0.mk (sameV_def x y)
  obtain ⟨W2, hW2⟩ : ∃ W2, W2 = (w.alloc (.cells #[.int .i64 x.f0, .string x.f1, .slice A2 x.f2.length c2, .int .i64 x.f3, .int .i64 x.f4, .slice A5 x.f5.length c5] 29)).alloc (.cells #[.int .i64 y.f0, .string y.f1, .slice B2 y.f2.length d2, .int .i64 y.f3, .int .i64 y.f4, .slice B5 y.f5.length d5] 29) := ⟨_, rfl⟩
  have hB := Aside0.mk (show Below w.heap.size w W2 from by rw [hW2]; exact below_alloc (below_alloc (Below.refl _ _) _) _)
  have b1 : W2.heap[w.heap.size]? = some (.cells #[.int .i64 x.f0, .string x.f1, .slice A2 x.f2.length c2, .int .i64 x.f3, .int .i64 x.f4, .slice A5 x.f5.length c5] 29 (0, 0)) := by
    rw [hW2, Below.heap_alloc _ _ _ (by simp)]
    simpa using heap_alloc_new w _
  have b2 : W2.heap[w.heap.size + 1]? = some (.cells #[.int .i64 y.f0, .string y.f1, .slice B2 y.f2.length d2, .int .i64 y.f3, .int .i64 y.f4, .slice B5 y.f5.length d5] 29 (0, 0)) := by
    rw [hW2]
    have := heap_alloc_new (w.alloc (.cells #[.int .i64 x.f0, .string x.f1, .slice A2 x.f2.length c2, .int .i64 x.f3, .int .i64 x.f4, .slice A5 x.f5.length c5] 29)) (.cells #[.int .i64 y.f0, .string y.f1, .slice B2 y.f2.length d2, .int .i64 y.f3, .int .i64 y.f4, .slice B5 y.f5.length d5] 29)
    rw [show (w.alloc (.cells #[.int .i64 x.f0, .string x.f1, .slice A2 x.f2.length c2, .int .i64 x.f3, .int .i64 x.f4, .slice A5 x.f5.length c5] 29)).heap.size = w.heap.size + 1 by simp] at this
    exact this
  have B1 := Aside0.mk b1
  have B2_ := Aside0.mk b2
  have HW2 := Aside0.mk hW2
  have hcl2 := H2 y.f2 A2 B2 c2 d2 W2 (Kd.C_below hA2 hB.out) hc2 (Kd.C_below hB2 hB.out) hd2
  have hcl5 := fun (W : World) (hb : Below W2.heap.size W2 W) => H5 y.f5 A5 B5 c5 d5 W (Kd.C_below (Kd.C_below hA5 hB.out) hb) hc5 (Kd.C_below (Kd.C_below hB5 hB.out) hb) hd5
  have p : ∀ W, Below W2.heap.size W2 W → (W.cell? ⟨w.heap.size, 0, none⟩ = some (.int .i64 x.f0) ∧ W.cell? ⟨w.heap.size, 1, none⟩ = some (.string x.f1) ∧ W.cell? ⟨w.heap.size, 2, none⟩ = some (.slice A2 x.f2.length c2) ∧ W.cell? ⟨w.heap.size, 3, none⟩ = some (.int .i64 x.f3) ∧ W.cell? ⟨w.heap.size, 4, none⟩ = some (.int .i64 x.f4) ∧ W.cell? ⟨w.heap.size, 5, none⟩ = some (.slice A5 x.f5.length c5)) ∧ (W.cell? ⟨w.heap.size + 1, 0, none⟩ = some (.int .i64 y.f0) ∧ W.cell? ⟨w.heap.size + 1, 1, none⟩ = some (.string y.f1) ∧ W.cell? ⟨w.heap.size + 1, 2, none⟩ = some (.slice B2 y.f2.length d2) ∧ W.cell? ⟨w.heap.size + 1, 3, none⟩ = some (.int .i64 y.f3) ∧ W.cell? ⟨w.heap.size + 1, 4, none⟩ = some (.int .i64 y.f4) ∧ W.cell? ⟨w.heap.size + 1, 5, none⟩ = some (.slice B5 y.f5.length d5)) := fun W hb => by
    have q1 := (hb.block _ (Array.getElem?_eq_some_iff.mp B1.out).1).trans B1.out
    have q2 := (hb.block _ (Array.getElem?_eq_some_iff.mp B2_.out).1).trans B2_.out
    exact ⟨⟨(blk_cell q1 0).trans rfl, (blk_cell q1 1).trans rfl, (blk_cell q1 2).trans rfl, (blk_cell q1 3).trans rfl, (blk_cell q1 4).trans rfl, (blk_cell q1 5).trans rfl⟩, ⟨(blk_cell q2 0).trans rfl, (blk_cell q2 1).trans rfl, (blk_cell q2 2).trans rfl, (blk_cell q2 3).trans rfl, (blk_cell q2 4).trans rfl, (blk_cell q2 5).trans rfl⟩⟩
  have P := Aside0.mk p
  obtain ⟨⟨x0, x1, x2, x3, x4, x5⟩, y0, y1, y2, y3, y4, y5⟩ := p W2 (Below.refl _ _)
  rw [hW2] at x0 x1 x2 x3 x4 x5 y0 y1 y2 y3 y4 y5 hcl2
  clear hA2 hc2 hA5 hc5 hB2 hd2 hB5 hd5 p b1 b2 hW2 H2 H5
  go_enter Try.func10, Try.ntmps10
  by_cases e0 : x.f0 = y.f0
  · have t0 : (x.f0 != y.f0) = false := bne_eq_false_iff_eq.mpr e0
    by_cases e1 : x.f1.toList = y.f1.toList
    · have t1 : (x.f1.toList == y.f1.toList) = true := beq_iff_eq.mpr e1
      have HV1 := Aside0.mk (show sameV x y = (x.f3 == y.f3 && x.f4 == y.f4 && sameL x.f2 y.f2 && sameL x.f5 y.f5) from by rw [HV.out, beq_iff_eq.mpr e0, decide_eq_true e1]; rfl)
      clear e0 e1 HV
      cases hv : sameL x.f2 y.f2 with
      | false =>
        rw [hv] at hcl2
        have HVE := Aside0.mk (show sameV x y = false from by rw [HV1.out, hv]; simp)
        clear hv HV1
        go_wp2_with (first
          | (go_at_call 21; refine hcl2.mono ?_; rintro e w3 ⟨rfl, hb3⟩)
          | go_in)
        go_ret
        rw [HVE.out]
        rw [← HW2.out] at hb3
        exact ⟨rfl, below_step hB.out hb3⟩
      | true =>
        rw [hv] at hcl2
        have HV2 := Aside0.mk (show sameV x y = (x.f3 == y.f3 && x.f4 == y.f4 && sameL x.f5 y.f5) from by rw [HV1.out, hv, Bool.and_true])
        clear hv HV1
        go_upto_region 7 with (first
          | (go_at_call 21; refine hcl2.mono ?_; rintro e w3 ⟨rfl, hb3⟩)
          | go_in)
        rw [← HW2.out] at hb3
        have HB3 := Aside0.mk hb3
        clear x0 x1 x2 x3 x4 x5 y0 y1 y2 y3 y4 y5 t0 t1
        obtain ⟨⟨x0, x1, x2, x3, x4, x5⟩, y0, y1, y2, y3, y4, y5⟩ := P.out _ HB3.out
        have hcl := hcl5 w3 HB3.out
        clear hb3 hcl5
        by_cases e3 : x.f3 = y.f3
        · have t3 : (x.f3 != y.f3) = false := bne_eq_false_iff_eq.mpr e3
          by_cases e4 : x.f4 = y.f4
          · have t4 : (x.f4 != y.f4) = false := bne_eq_false_iff_eq.mpr e4
            have HVE := Aside0.mk (show sameV x y = sameL x.f5 y.f5 from by rw [HV2.out, beq_iff_eq.mpr e3, beq_iff_eq.mpr e4]; rfl)
            clear e3 e4 HV2
            cases hv5 : sameL x.f5 y.f5 with
            | false =>
              rw [hv5] at hcl HVE
              clear hv5
              go_wp2_with (first
                | (go_at_call 21; refine hcl.mono ?_; rintro e w4 ⟨rfl, hb4⟩)
                | go_in)
              go_ret
              rw [HVE.out]
              exact ⟨rfl, below_step (below_step hB.out HB3.out) hb4⟩
            | true =>
              rw [hv5] at hcl HVE
              clear hv5
              go_wp2_with (first
                | (go_at_call 21; refine hcl.mono ?_; rintro e w4 ⟨rfl, hb4⟩)
                | go_in)
              go_ret
              rw [HVE.out]
              exact ⟨rfl, below_step (below_step hB.out HB3.out) hb4⟩
          · have t4 : (x.f4 != y.f4) = true := bne_iff_ne.mpr e4
            have HVE := Aside0.mk (show sameV x y = false from by rw [HV2.out, beq_eq_false_iff_ne.mpr e4]; simp)
            clear e3 e4 HV2
            go_wp2
            go_ret
            rw [HVE.out]
            exact ⟨rfl, below_step hB.out HB3.out⟩
        · have t3 : (x.f3 != y.f3) = true := bne_iff_ne.mpr e3
          have HVE := Aside0.mk (show sameV x y = false from by rw [HV2.out, beq_eq_false_iff_ne.mpr e3]; simp)
          clear e3 HV2
          go_wp2
          go_ret
          rw [HVE.out]
          exact ⟨rfl, below_step hB.out HB3.out⟩
    · have t1 : (x.f1.toList == y.f1.toList) = false := beq_eq_false_iff_ne.mpr e1
      have HVE := Aside0.mk (show sameV x y = false from by rw [HV.out, decide_eq_false e1]; simp)
      clear e0 e1 HV
      go_wp2
      go_ret
      rw [HVE.out]
      rw [← HW2.out]
      exact ⟨rfl, hB.out⟩
  · have t0 : (x.f0 != y.f0) = true := bne_iff_ne.mpr e0
    have HVE := Aside0.mk (show sameV x y = false from by rw [HV.out, beq_eq_false_iff_ne.mpr e0]; simp)
    clear e0 HV
    go_wp2
    go_ret
    rw [HVE.out]
    rw [← HW2.out]
    exact ⟨rfl, hB.out⟩
theorem eqNode_all (x : S29) : EqC 10 x := nd_all (fun x h2 h5 => eqNode_of x (eqNodeS_of _ h2) (eqNodeS_of _ h5)) x
set_option maxHeartbeats 4000000 in
set_option maxRecDepth 100000 in
theorem qnNodes_of (l : List S29) (H : ∀ x ∈ l, EqC 12 x) : EqL 26 l := by
  intro m A B c d w hA hc hB hd
  have HH := Aside0.mk H
  have HA := Aside0.mk hA
  have HB := Aside0.mk hB
  clear H hA hB
  by_cases hn : l.length = m.length
  · have hne : ((l.length : Int) != (m.length : Int)) = false := bne_eq_false_iff_eq.mpr (by rw [hn])
    have HN := Aside0.mk hn
    have HM := Aside0.mk HA.out.2.1
    clear hn
    go_enter Try.func26, Try.ntmps26
    go_wp2
    go_loopg [5] l.length (fun gg s5 wr => ∃ j : Nat, s5 = .int .i64 j ∧ Aside0 (j ≤ l.length ∧ l.length - j ≤ gg) ∧ Aside0 (Below w.heap.size w wr) ∧ Aside0 (sameL l m = sameL (l.drop j) (m.drop j)))
    case atStart => exact ⟨0, rfl, ⟨Nat.zero_le _, by omega⟩, ⟨Below.refl _ _⟩, ⟨rfl⟩⟩
    case round =>
      obtain ⟨j, rfl, HK, HBr, HS⟩ := hrel
      by_cases hlt : j < l.length
      · have hltz : (j : Int) < (l.length : Int) := by omega
        have hltm : (j : Int) < (m.length : Int) := by rw [← HN.out]; exact hltz
        obtain ⟨ad, A2, c2, A5, c5, e, x0, x1, x2, x3, x4, x5, l2, g2, l5, g5⟩ := at_T29 HA.out (j : Int) (by omega) hltz
        obtain ⟨bd, B2, d2, B5, d5, e', y0, y1, y2, y3, y4, y5, m2, h2, m5, h5⟩ := at_T29 HB.out (j : Int) (by omega) hltm
        subst e e'
        rw [Int.toNat_natCast] at x0 x1 x2 x3 x4 x5 y0 y1 y2 y3 y4 y5
        have hd1 := sameL_drop hlt (by rw [← HN.out]; exact hlt : j < m.length)
        have hx := HH.out (rd_T29 l (j : Int)) (by rw [rdN l j hlt]; exact List.getElem_mem hlt)
        rw [hd1] at HS
        clear hd1
        generalize rd_T29 l (j : Int) = x at *
        generalize rd_T29 m (j : Int) = y at *
        have hb1 := below_drew HBr.out
        have mv : ∀ {p : Addr} {u : Value}, w.cell? p = some u → wr.cell? p = some u := fun {p u} h => (HBr.out.cell (World.block_lt_of_cell? w _ h)).trans h
        have hcall := hx y A2 A5 B2 B5 c2 c5 d2 d5 wr.drew (Kd.C_below g2 hb1) l2 (Kd.C_below g5 hb1) l5 (Kd.C_below h2 hb1) m2 (Kd.C_below h5 hb1) m5
        replace x0 := mv x0
        replace x1 := mv x1
        replace x2 := mv x2
        replace x3 := mv x3
        replace x4 := mv x4
        replace x5 := mv x5
        replace y0 := mv y0
        replace y1 := mv y1
        replace y2 := mv y2
        replace y3 := mv y3
        replace y4 := mv y4
        replace y5 := mv y5
        clear mv hx g2 g5 h2 h5 l2 l5 m2 m5 hlt
        replace hb1 := Aside0.mk hb1
        have hwj : wrap64 ((j : Int) + 1) = (j : Int) + 1 := w64 (by omega) (by have := HM.out; have := HK.out; omega)
        have HWJ := Aside0.mk hwj
        clear hwj
        cases hv : sameV x y with
        | true =>
          rw [hv] at hcall HS
          clear hv
          go_wp2
          refine start_ (n := 10) (S := fun w' => w'.cell? (ad.add (j * 6)) = some (.int .i64 x.f0) ∧ w'.cell? ⟨(ad.add (j * 6)).block, (ad.add (j * 6)).off + 1, none⟩ = some (.string x.f1) ∧ w'.cell? ⟨(ad.add (j * 6)).block, (ad.add (j * 6)).off + 2, none⟩ = some (.slice A2 x.f2.length c2) ∧ w'.cell? ⟨(ad.add (j * 6)).block, (ad.add (j * 6)).off + 3, none⟩ = some (.int .i64 x.f3) ∧ w'.cell? ⟨(ad.add (j * 6)).block, (ad.add (j * 6)).off + 4, none⟩ = some (.int .i64 x.f4) ∧ w'.cell? ⟨(ad.add (j * 6)).block, (ad.add (j * 6)).off + 5, none⟩ = some (.slice A5 x.f5.length c5) ∧ w'.cell? (bd.add (j * 6)) = some (.int .i64 y.f0) ∧ w'.cell? ⟨(bd.add (j * 6)).block, (bd.add (j * 6)).off + 1, none⟩ = some (.string y.f1) ∧ w'.cell? ⟨(bd.add (j * 6)).block, (bd.add (j * 6)).off + 2, none⟩ = some (.slice B2 y.f2.length d2) ∧ w'.cell? ⟨(bd.add (j * 6)).block, (bd.add (j * 6)).off + 3, none⟩ = some (.int .i64 y.f3) ∧ w'.cell? ⟨(bd.add (j * 6)).block, (bd.add (j * 6)).off + 4, none⟩ = some (.int .i64 y.f4) ∧ w'.cell? ⟨(bd.add (j * 6)).block, (bd.add (j * 6)).off + 5, none⟩ = some (.slice B5 y.f5.length d5)) (ds := []) #[false, false, false, false, false, false, false, false, false, false] (by kernel_rfl) rfl rfl ⟨x0, x1, x2, x3, x4, x5, y0, y1, y2, y3, y4, y5⟩ (fun hHeld => ?_)
          refine pure_ (i := 0) (N := some 17) (v := ?_) (a' := ?_) #[true, false, false, false, false, false, false, false, false, false] rfl rfl (by kernel_rfl) (fun _ _ _ h => h) (Or.inl ⟨by rfl, ?_⟩) ?_ ?_
          rotate_left
          · intro w'
            go_simp
            with_reducible rfl
          rotate_left
          · simp only [Act.put, List.setIfInBounds_toArray, List.set_cons_zero, List.set_cons_succ, i64_w, i32_w]
            rfl
          refine pure_ (i := 1) (N := some 18) (v := ?_) (a' := ?_) #[true, true, false, false, false, false, false, false, false, false] rfl rfl (by kernel_rfl) (fun _ _ _ h => h) (Or.inl ⟨by rfl, ?_⟩) ?_ ?_
          rotate_left
          · intro w'
            go_simp
            with_reducible rfl
          rotate_left
          · simp only [Act.put, List.setIfInBounds_toArray, List.set_cons_zero, List.set_cons_succ, i64_w, i32_w]
            rfl
          refine pure_ (i := 2) (N := some 19) (v := ?_) (a' := ?_) #[true, true, true, false, false, false, false, false, false, false] rfl rfl (by kernel_rfl) (fun _ _ _ h => h) (Or.inl ⟨by rfl, ?_⟩) ?_ ?_
          rotate_left
          · intro w'
            go_simp
            with_reducible rfl
          rotate_left
          · simp only [Act.put, List.setIfInBounds_toArray, List.set_cons_zero, List.set_cons_succ, i64_w, i32_w]
            rfl
          refine pure_ (i := 4) (N := some 21) (v := ?_) (a' := ?_) #[true, true, true, false, true, false, false, false, false, false] rfl rfl (by kernel_rfl) (fun _ _ _ h => h) (Or.inl ⟨by rfl, ?_⟩) ?_ ?_
          rotate_left
          · intro w'
            go_simp
            with_reducible rfl
          rotate_left
          · simp only [Act.put, List.setIfInBounds_toArray, List.set_cons_zero, List.set_cons_succ, i64_w, i32_w]
            rfl
          refine pure_ (i := 5) (N := some 22) (v := ?_) (a' := ?_) #[true, true, true, false, true, true, false, false, false, false] rfl rfl (by kernel_rfl) (fun _ _ _ h => h) (Or.inl ⟨by rfl, ?_⟩) ?_ ?_
          rotate_left
          · intro w'
            go_simp
            with_reducible rfl
          rotate_left
          · simp only [Act.put, List.setIfInBounds_toArray, List.set_cons_zero, List.set_cons_succ, i64_w, i32_w]
            rfl
          refine pure_ (i := 6) (N := some 23) (v := ?_) (a' := ?_) #[true, true, true, false, true, true, true, false, false, false] rfl rfl (by kernel_rfl) (fun _ _ _ h => h) (Or.inl ⟨by rfl, ?_⟩) ?_ ?_
          rotate_left
          · intro w'
            go_simp
            with_reducible rfl
          rotate_left
          · simp only [Act.put, List.setIfInBounds_toArray, List.set_cons_zero, List.set_cons_succ, i64_w, i32_w]
            rfl
          refine take_ (i := 3) (N := some 20) (v := ?_) (a' := ?_) #[true, true, true, true, true, true, true, false, false, false] rfl rfl (by kernel_rfl) (fun _ _ _ h => h) (Or.inl ⟨by rfl, ?_⟩) hHeld ?_ ?_
          rotate_left
          · rintro w' ⟨s0, s1, s2, s3, s4, s5, s6, s7, s8, s9, s10, s11⟩
            go_simp
            with_reducible rfl
          rotate_left
          · simp only [Act.put, List.setIfInBounds_toArray, List.set_cons_zero, List.set_cons_succ, i64_w, i32_w]
            rfl
          refine take_ (i := 7) (N := some 24) (v := ?_) (a' := ?_) #[true, true, true, true, true, true, true, true, false, false] rfl rfl (by kernel_rfl) (fun _ _ _ h => h) (Or.inl ⟨by rfl, ?_⟩) hHeld ?_ ?_
          rotate_left
          · rintro w' ⟨s0, s1, s2, s3, s4, s5, s6, s7, s8, s9, s10, s11⟩
            go_simp
            with_reducible rfl
          rotate_left
          · simp only [Act.put, List.setIfInBounds_toArray, List.set_cons_zero, List.set_cons_succ, i64_w, i32_w]
            rfl
          refine one_ (i := 8) (N := some 25) #[true, true, true, true, true, true, true, true, true, false] rfl rfl (by kernel_rfl) (by decide) (fun K hK => ?_)
          refine goes_ Try.func12 (by kernel_rfl) rfl #[aggV x A2 c2 A5 c5, aggV y B2 d2 B5 d5] (by rfl) rfl rfl (by simp only [List.map_toArray, List.map_cons, List.map_nil]; rfl) ?_
          with_reducible refine (hcall).mono ?_
          rintro e w9 ⟨rfl, hb9⟩
          refine ⟨_, rfl, ?_⟩
          have HB9 := Aside0.mk (below_step hb1.out hb9)
          refine hK.out _ _ ⟨(hb9.cell (World.block_lt_of_cell? _ _ x0)).trans x0, (hb9.cell (World.block_lt_of_cell? _ _ x1)).trans x1, (hb9.cell (World.block_lt_of_cell? _ _ x2)).trans x2, (hb9.cell (World.block_lt_of_cell? _ _ x3)).trans x3, (hb9.cell (World.block_lt_of_cell? _ _ x4)).trans x4, (hb9.cell (World.block_lt_of_cell? _ _ x5)).trans x5, (hb9.cell (World.block_lt_of_cell? _ _ y0)).trans y0, (hb9.cell (World.block_lt_of_cell? _ _ y1)).trans y1, (hb9.cell (World.block_lt_of_cell? _ _ y2)).trans y2, (hb9.cell (World.block_lt_of_cell? _ _ y3)).trans y3, (hb9.cell (World.block_lt_of_cell? _ _ y4)).trans y4, (hb9.cell (World.block_lt_of_cell? _ _ y5)).trans y5⟩ (fun hHeld => ?_)
          clear hK K
          refine norm_ (a' := ?_) ?_ ?_
          rotate_left
          · show Act.put _ (some 25) _ = _
            simp only [Act.put, List.setIfInBounds_toArray, List.set_cons_zero, List.set_cons_succ, i64_w, i32_w]
            rfl
          refine pure_ (i := 9) (N := some 26) (v := ?_) (a' := ?_) #[true, true, true, true, true, true, true, true, true, true] rfl rfl (by kernel_rfl) (fun _ _ _ h => h) (Or.inl ⟨by rfl, ?_⟩) ?_ ?_
          rotate_left
          · intro w'
            go_simp
            with_reducible rfl
          rotate_left
          · simp only [Act.put, List.setIfInBounds_toArray, List.set_cons_zero, List.set_cons_succ, i64_w, i32_w]
            rfl
          refine done_ (by kernel_rfl) ?_
          go_wp2
          go_roundg (l.length - (j + 1))
          case measure => have := HK.out; omega
          case rel => exact ⟨j + 1, by first | rfl | (rw [HWJ.out]; rfl), ⟨by omega, by omega⟩, ⟨HB9.out⟩, ⟨by rw [HS.out, Bool.true_and]⟩⟩
        | false =>
          rw [hv] at hcall HS
          clear hv
          go_wp2
          refine start_ (n := 10) (S := fun w' => w'.cell? (ad.add (j * 6)) = some (.int .i64 x.f0) ∧ w'.cell? ⟨(ad.add (j * 6)).block, (ad.add (j * 6)).off + 1, none⟩ = some (.string x.f1) ∧ w'.cell? ⟨(ad.add (j * 6)).block, (ad.add (j * 6)).off + 2, none⟩ = some (.slice A2 x.f2.length c2) ∧ w'.cell? ⟨(ad.add (j * 6)).block, (ad.add (j * 6)).off + 3, none⟩ = some (.int .i64 x.f3) ∧ w'.cell? ⟨(ad.add (j * 6)).block, (ad.add (j * 6)).off + 4, none⟩ = some (.int .i64 x.f4) ∧ w'.cell? ⟨(ad.add (j * 6)).block, (ad.add (j * 6)).off + 5, none⟩ = some (.slice A5 x.f5.length c5) ∧ w'.cell? (bd.add (j * 6)) = some (.int .i64 y.f0) ∧ w'.cell? ⟨(bd.add (j * 6)).block, (bd.add (j * 6)).off + 1, none⟩ = some (.string y.f1) ∧ w'.cell? ⟨(bd.add (j * 6)).block, (bd.add (j * 6)).off + 2, none⟩ = some (.slice B2 y.f2.length d2) ∧ w'.cell? ⟨(bd.add (j * 6)).block, (bd.add (j * 6)).off + 3, none⟩ = some (.int .i64 y.f3) ∧ w'.cell? ⟨(bd.add (j * 6)).block, (bd.add (j * 6)).off + 4, none⟩ = some (.int .i64 y.f4) ∧ w'.cell? ⟨(bd.add (j * 6)).block, (bd.add (j * 6)).off + 5, none⟩ = some (.slice B5 y.f5.length d5)) (ds := []) #[false, false, false, false, false, false, false, false, false, false] (by kernel_rfl) rfl rfl ⟨x0, x1, x2, x3, x4, x5, y0, y1, y2, y3, y4, y5⟩ (fun hHeld => ?_)
          refine pure_ (i := 0) (N := some 17) (v := ?_) (a' := ?_) #[true, false, false, false, false, false, false, false, false, false] rfl rfl (by kernel_rfl) (fun _ _ _ h => h) (Or.inl ⟨by rfl, ?_⟩) ?_ ?_
          rotate_left
          · intro w'
            go_simp
            with_reducible rfl
          rotate_left
          · simp only [Act.put, List.setIfInBounds_toArray, List.set_cons_zero, List.set_cons_succ, i64_w, i32_w]
            rfl
          refine pure_ (i := 1) (N := some 18) (v := ?_) (a' := ?_) #[true, true, false, false, false, false, false, false, false, false] rfl rfl (by kernel_rfl) (fun _ _ _ h => h) (Or.inl ⟨by rfl, ?_⟩) ?_ ?_
          rotate_left
          · intro w'
            go_simp
            with_reducible rfl
          rotate_left
          · simp only [Act.put, List.setIfInBounds_toArray, List.set_cons_zero, List.set_cons_succ, i64_w, i32_w]
            rfl
          refine pure_ (i := 2) (N := some 19) (v := ?_) (a' := ?_) #[true, true, true, false, false, false, false, false, false, false] rfl rfl (by kernel_rfl) (fun _ _ _ h => h) (Or.inl ⟨by rfl, ?_⟩) ?_ ?_
          rotate_left
          · intro w'
            go_simp
            with_reducible rfl
          rotate_left
          · simp only [Act.put, List.setIfInBounds_toArray, List.set_cons_zero, List.set_cons_succ, i64_w, i32_w]
            rfl
          refine pure_ (i := 4) (N := some 21) (v := ?_) (a' := ?_) #[true, true, true, false, true, false, false, false, false, false] rfl rfl (by kernel_rfl) (fun _ _ _ h => h) (Or.inl ⟨by rfl, ?_⟩) ?_ ?_
          rotate_left
          · intro w'
            go_simp
            with_reducible rfl
          rotate_left
          · simp only [Act.put, List.setIfInBounds_toArray, List.set_cons_zero, List.set_cons_succ, i64_w, i32_w]
            rfl
          refine pure_ (i := 5) (N := some 22) (v := ?_) (a' := ?_) #[true, true, true, false, true, true, false, false, false, false] rfl rfl (by kernel_rfl) (fun _ _ _ h => h) (Or.inl ⟨by rfl, ?_⟩) ?_ ?_
          rotate_left
          · intro w'
            go_simp
            with_reducible rfl
          rotate_left
          · simp only [Act.put, List.setIfInBounds_toArray, List.set_cons_zero, List.set_cons_succ, i64_w, i32_w]
            rfl
          refine pure_ (i := 6) (N := some 23) (v := ?_) (a' := ?_) #[true, true, true, false, true, true, true, false, false, false] rfl rfl (by kernel_rfl) (fun _ _ _ h => h) (Or.inl ⟨by rfl, ?_⟩) ?_ ?_
          rotate_left
          · intro w'
            go_simp
            with_reducible rfl
          rotate_left
          · simp only [Act.put, List.setIfInBounds_toArray, List.set_cons_zero, List.set_cons_succ, i64_w, i32_w]
            rfl
          refine take_ (i := 3) (N := some 20) (v := ?_) (a' := ?_) #[true, true, true, true, true, true, true, false, false, false] rfl rfl (by kernel_rfl) (fun _ _ _ h => h) (Or.inl ⟨by rfl, ?_⟩) hHeld ?_ ?_
          rotate_left
          · rintro w' ⟨s0, s1, s2, s3, s4, s5, s6, s7, s8, s9, s10, s11⟩
            go_simp
            with_reducible rfl
          rotate_left
          · simp only [Act.put, List.setIfInBounds_toArray, List.set_cons_zero, List.set_cons_succ, i64_w, i32_w]
            rfl
          refine take_ (i := 7) (N := some 24) (v := ?_) (a' := ?_) #[true, true, true, true, true, true, true, true, false, false] rfl rfl (by kernel_rfl) (fun _ _ _ h => h) (Or.inl ⟨by rfl, ?_⟩) hHeld ?_ ?_
          rotate_left
          · rintro w' ⟨s0, s1, s2, s3, s4, s5, s6, s7, s8, s9, s10, s11⟩
            go_simp
            with_reducible rfl
          rotate_left
          · simp only [Act.put, List.setIfInBounds_toArray, List.set_cons_zero, List.set_cons_succ, i64_w, i32_w]
            rfl
          refine one_ (i := 8) (N := some 25) #[true, true, true, true, true, true, true, true, true, false] rfl rfl (by kernel_rfl) (by decide) (fun K hK => ?_)
          refine goes_ Try.func12 (by kernel_rfl) rfl #[aggV x A2 c2 A5 c5, aggV y B2 d2 B5 d5] (by rfl) rfl rfl (by simp only [List.map_toArray, List.map_cons, List.map_nil]; rfl) ?_
          with_reducible refine (hcall).mono ?_
          rintro e w9 ⟨rfl, hb9⟩
          refine ⟨_, rfl, ?_⟩
          have HB9 := Aside0.mk (below_step hb1.out hb9)
          refine hK.out _ _ ⟨(hb9.cell (World.block_lt_of_cell? _ _ x0)).trans x0, (hb9.cell (World.block_lt_of_cell? _ _ x1)).trans x1, (hb9.cell (World.block_lt_of_cell? _ _ x2)).trans x2, (hb9.cell (World.block_lt_of_cell? _ _ x3)).trans x3, (hb9.cell (World.block_lt_of_cell? _ _ x4)).trans x4, (hb9.cell (World.block_lt_of_cell? _ _ x5)).trans x5, (hb9.cell (World.block_lt_of_cell? _ _ y0)).trans y0, (hb9.cell (World.block_lt_of_cell? _ _ y1)).trans y1, (hb9.cell (World.block_lt_of_cell? _ _ y2)).trans y2, (hb9.cell (World.block_lt_of_cell? _ _ y3)).trans y3, (hb9.cell (World.block_lt_of_cell? _ _ y4)).trans y4, (hb9.cell (World.block_lt_of_cell? _ _ y5)).trans y5⟩ (fun hHeld => ?_)
          clear hK K
          refine norm_ (a' := ?_) ?_ ?_
          rotate_left
          · show Act.put _ (some 25) _ = _
            simp only [Act.put, List.setIfInBounds_toArray, List.set_cons_zero, List.set_cons_succ, i64_w, i32_w]
            rfl
          refine pure_ (i := 9) (N := some 26) (v := ?_) (a' := ?_) #[true, true, true, true, true, true, true, true, true, true] rfl rfl (by kernel_rfl) (fun _ _ _ h => h) (Or.inl ⟨by rfl, ?_⟩) ?_ ?_
          rotate_left
          · intro w'
            go_simp
            with_reducible rfl
          rotate_left
          · simp only [Act.put, List.setIfInBounds_toArray, List.set_cons_zero, List.set_cons_succ, i64_w, i32_w]
            rfl
          refine done_ (by kernel_rfl) ?_
          go_wp2
          go_ret
          rw [HS.out]
          exact ⟨rfl, HB9.out⟩
      · have hltz : ¬ (j : Int) < (l.length : Int) := by omega
        have e : sameL l m = true := by
          rw [HS.out, List.drop_eq_nil_of_le (by omega), List.drop_eq_nil_of_le (by rw [← HN.out]; omega)]
          simp [sameL]
        have HE := Aside0.mk e
        clear e hlt
        go_wp2
        go_ret
        rw [HE.out]
        exact ⟨rfl, HBr.out⟩
  · have hne : ((l.length : Int) != (m.length : Int)) = true := bne_iff_ne.mpr (by omega)
    have e : sameL l m = false := by
      cases h : sameL l m with
      | false => rfl
      | true => exact absurd (sameL_length h) hn
    have HE := Aside0.mk e
    clear e hn
    go_enter Try.func26, Try.ntmps26
    go_wp2
    go_ret
    rw [HE.out]
    exact ⟨rfl, Below.refl _ _⟩
set_option maxHeartbeats 4000000 in
set_option maxRecDepth 100000 in
theorem qnNode_of (x : S29) (H2 : EqL 26 x.f2) (H5 : EqL 26 x.f5) : EqC 12 x := by
  intro y A2 A5 B2 B5 c2 c5 d2 d5 w hA2 hc2 hA5 hc5 hB2 hd2 hB5 hd5
  have HV := Aside0.mk (sameV_def x y)
  obtain ⟨W2, hW2⟩ : ∃ W2, W2 = (w.alloc (.cells #[.int .i64 x.f0, .string x.f1, .slice A2 x.f2.length c2, .int .i64 x.f3, .int .i64 x.f4, .slice A5 x.f5.length c5] 29)).alloc (.cells #[.int .i64 y.f0, .string y.f1, .slice B2 y.f2.length d2, .int .i64 y.f3, .int .i64 y.f4, .slice B5 y.f5.length d5] 29) := ⟨_, rfl⟩
  have hB := Aside0.mk (show Below w.heap.size w W2 from by rw [hW2]; exact below_alloc (below_alloc (Below.refl _ _) _) _)
  have b1 : W2.heap[w.heap.size]? = some (.cells #[.int .i64 x.f0, .string x.f1, .slice A2 x.f2.length c2, .int .i64 x.f3, .int .i64 x.f4, .slice A5 x.f5.length c5] 29 (0, 0)) := by
    rw [hW2, Below.heap_alloc _ _ _ (by simp)]
    simpa using heap_alloc_new w _
  have b2 : W2.heap[w.heap.size + 1]? = some (.cells #[.int .i64 y.f0, .string y.f1, .slice B2 y.f2.length d2, .int .i64 y.f3, .int .i64 y.f4, .slice B5 y.f5.length d5] 29 (0, 0)) := by
    rw [hW2]
    have := heap_alloc_new (w.alloc (.cells #[.int .i64 x.f0, .string x.f1, .slice A2 x.f2.length c2, .int .i64 x.f3, .int .i64 x.f4, .slice A5 x.f5.length c5] 29)) (.cells #[.int .i64 y.f0, .string y.f1, .slice B2 y.f2.length d2, .int .i64 y.f3, .int .i64 y.f4, .slice B5 y.f5.length d5] 29)
    rw [show (w.alloc (.cells #[.int .i64 x.f0, .string x.f1, .slice A2 x.f2.length c2, .int .i64 x.f3, .int .i64 x.f4, .slice A5 x.f5.length c5] 29)).heap.size = w.heap.size + 1 by simp] at this
    exact this
  have B1 := Aside0.mk b1
  have B2_ := Aside0.mk b2
  have HW2 := Aside0.mk hW2
  have hcl2 := H2 y.f2 A2 B2 c2 d2 W2 (Kd.C_below hA2 hB.out) hc2 (Kd.C_below hB2 hB.out) hd2
  have hcl5 := fun (W : World) (hb : Below W2.heap.size W2 W) => H5 y.f5 A5 B5 c5 d5 W (Kd.C_below (Kd.C_below hA5 hB.out) hb) hc5 (Kd.C_below (Kd.C_below hB5 hB.out) hb) hd5
  have p : ∀ W, Below W2.heap.size W2 W → (W.cell? ⟨w.heap.size, 0, none⟩ = some (.int .i64 x.f0) ∧ W.cell? ⟨w.heap.size, 1, none⟩ = some (.string x.f1) ∧ W.cell? ⟨w.heap.size, 2, none⟩ = some (.slice A2 x.f2.length c2) ∧ W.cell? ⟨w.heap.size, 3, none⟩ = some (.int .i64 x.f3) ∧ W.cell? ⟨w.heap.size, 4, none⟩ = some (.int .i64 x.f4) ∧ W.cell? ⟨w.heap.size, 5, none⟩ = some (.slice A5 x.f5.length c5)) ∧ (W.cell? ⟨w.heap.size + 1, 0, none⟩ = some (.int .i64 y.f0) ∧ W.cell? ⟨w.heap.size + 1, 1, none⟩ = some (.string y.f1) ∧ W.cell? ⟨w.heap.size + 1, 2, none⟩ = some (.slice B2 y.f2.length d2) ∧ W.cell? ⟨w.heap.size + 1, 3, none⟩ = some (.int .i64 y.f3) ∧ W.cell? ⟨w.heap.size + 1, 4, none⟩ = some (.int .i64 y.f4) ∧ W.cell? ⟨w.heap.size + 1, 5, none⟩ = some (.slice B5 y.f5.length d5)) := fun W hb => by
    have q1 := (hb.block _ (Array.getElem?_eq_some_iff.mp B1.out).1).trans B1.out
    have q2 := (hb.block _ (Array.getElem?_eq_some_iff.mp B2_.out).1).trans B2_.out
    exact ⟨⟨(blk_cell q1 0).trans rfl, (blk_cell q1 1).trans rfl, (blk_cell q1 2).trans rfl, (blk_cell q1 3).trans rfl, (blk_cell q1 4).trans rfl, (blk_cell q1 5).trans rfl⟩, ⟨(blk_cell q2 0).trans rfl, (blk_cell q2 1).trans rfl, (blk_cell q2 2).trans rfl, (blk_cell q2 3).trans rfl, (blk_cell q2 4).trans rfl, (blk_cell q2 5).trans rfl⟩⟩
  have P := Aside0.mk p
  obtain ⟨⟨x0, x1, x2, x3, x4, x5⟩, y0, y1, y2, y3, y4, y5⟩ := p W2 (Below.refl _ _)
  rw [hW2] at x0 x1 x2 x3 x4 x5 y0 y1 y2 y3 y4 y5 hcl2
  clear hA2 hc2 hA5 hc5 hB2 hd2 hB5 hd5 p b1 b2 hW2 H2 H5
  go_enter Try.func12, Try.ntmps12
  have fin : ∀ (W : World), Below W2.heap.size W2 W → ∀ (b : Bool), sameV x y = b → (Ending.returned (.bool b) = .returned (.bool (sameV x y)) ∧ Below w.heap.size w W) := fun W hb b h => ⟨by rw [h], below_step hB.out hb⟩
  have FIN := Aside0.mk fin
  clear fin
  by_cases e0 : x.f0 = y.f0
  · have t0 : (x.f0 == y.f0) = true := beq_iff_eq.mpr e0
    by_cases e1 : x.f1.toList = y.f1.toList
    · have t1 : (x.f1.toList == y.f1.toList) = true := beq_iff_eq.mpr e1
      by_cases e3 : x.f3 = y.f3
      · have t3 : (x.f3 == y.f3) = true := beq_iff_eq.mpr e3
        by_cases e4 : x.f4 = y.f4
        · have t4 : (x.f4 == y.f4) = true := beq_iff_eq.mpr e4
          have HV1 := Aside0.mk (show sameV x y = (sameL x.f2 y.f2 && sameL x.f5 y.f5) from by rw [HV.out, t0, decide_eq_true e1, t3, t4]; rfl)
          clear e0 e1 e3 e4 HV
          cases hv : sameL x.f2 y.f2 with
          | false =>
            rw [hv] at hcl2
            have HVE := Aside0.mk (show sameV x y = false from by rw [HV1.out, hv]; rfl)
            clear hv HV1
            go_wp2_with (first
              | (go_at_call 26; refine hcl2.mono ?_; rintro e w3 ⟨rfl, hb3⟩)
              | go_in)
            go_ret
            rw [← HW2.out] at hb3
            exact FIN.out _ hb3 _ HVE.out
          | true =>
            rw [hv] at hcl2
            have HV2 := Aside0.mk (show sameV x y = sameL x.f5 y.f5 from by rw [HV1.out, hv, Bool.true_and])
            clear hv HV1
            cases hv5 : sameL x.f5 y.f5 with
            | false =>
              rw [hv5] at hcl5 HV2
              clear hv5
              go_wp2_with (first
                | (go_at_call 26; refine hcl2.mono ?_; rintro e w3 ⟨rfl, hb3⟩; rw [← HW2.out] at hb3; have HB3 := Aside0.mk hb3; clear hb3 hcl2 x0 x1 x2 x3 x4 x5 y0 y1 y2 y3 y4 y5; obtain ⟨⟨x0, x1, x2, x3, x4, x5⟩, y0, y1, y2, y3, y4, y5⟩ := P.out _ HB3.out; have hcl := hcl5 w3 HB3.out; clear hcl5)
                | (go_at_call 26; refine hcl.mono ?_; rintro e w4 ⟨rfl, hb4⟩)
                | go_in)
              go_ret
              exact FIN.out _ (HB3.out.trans (hb4.mono HB3.out.size)) _ HV2.out
            | true =>
              rw [hv5] at hcl5 HV2
              clear hv5
              go_wp2_with (first
                | (go_at_call 26; refine hcl2.mono ?_; rintro e w3 ⟨rfl, hb3⟩; rw [← HW2.out] at hb3; have HB3 := Aside0.mk hb3; clear hb3 hcl2 x0 x1 x2 x3 x4 x5 y0 y1 y2 y3 y4 y5; obtain ⟨⟨x0, x1, x2, x3, x4, x5⟩, y0, y1, y2, y3, y4, y5⟩ := P.out _ HB3.out; have hcl := hcl5 w3 HB3.out; clear hcl5)
                | (go_at_call 26; refine hcl.mono ?_; rintro e w4 ⟨rfl, hb4⟩)
                | go_in)
              go_ret
              exact FIN.out _ (HB3.out.trans (hb4.mono HB3.out.size)) _ HV2.out
        · have t4 : (x.f4 == y.f4) = false := beq_eq_false_iff_ne.mpr e4
          have HVE := Aside0.mk (show sameV x y = false from by rw [HV.out, t4]; simp)
          clear e0 e1 e3 e4 HV
          go_wp2
          go_ret
          rw [← HW2.out]
          exact FIN.out _ (Below.refl _ _) _ HVE.out
      · have t3 : (x.f3 == y.f3) = false := beq_eq_false_iff_ne.mpr e3
        have HVE := Aside0.mk (show sameV x y = false from by rw [HV.out, t3]; simp)
        clear e0 e1 e3 HV
        go_wp2
        go_ret
        rw [← HW2.out]
        exact FIN.out _ (Below.refl _ _) _ HVE.out
    · have t1 : (x.f1.toList == y.f1.toList) = false := beq_eq_false_iff_ne.mpr e1
      have HVE := Aside0.mk (show sameV x y = false from by rw [HV.out, decide_eq_false e1]; simp)
      clear e0 e1 HV
      go_wp2
      go_ret
      rw [← HW2.out]
      exact FIN.out _ (Below.refl _ _) _ HVE.out
  · have t0 : (x.f0 == y.f0) = false := beq_eq_false_iff_ne.mpr e0
    have HVE := Aside0.mk (show sameV x y = false from by rw [HV.out, t0]; rfl)
    clear e0 HV
    go_wp2
    go_ret
    rw [← HW2.out]
    exact FIN.out _ (Below.refl _ _) _ HVE.out
theorem qnNode_all (x : S29) : EqC 12 x := nd_all (fun x h2 h5 => qnNode_of x (qnNodes_of _ h2) (qnNodes_of _ h5)) x
end Go.Proofs.Ytjiidjlmdibhdaa
