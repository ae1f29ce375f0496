/- slices.Concat at rows of texts: one row of all their texts. -/
import Derived.Test.YtjeipkfeihahdaaGreatDoorPx0
namespace Go.Proofs.YtjeipkfeihahdaaGreatDoor
open Go.RowKit Go.Proofs.YtjeipkfeihahdaaGreatDoor.P Go.Proofs.YtjeipkfeihahdaaGreatDoorW.PrintWords Go.Proofs.YtjeipkfeihahdaaGreatDoorW.PrintLast Go.Proofs.YtjeipkfeihahdaaGreatDoorW.PrintMore
attribute [local go_sem] max2_int min2_int max_two min_two max_three min_three max_four min_four
set_option linter.unusedVariables false
set_option linter.unusedSimpArgs false
set_option maxHeartbeats 1000000 in
/-- slices.Grow of nil. -/
theorem growNil_calls (n : Int) (h0 : 0 ≤ n) (h1 : n ≤ 1000000) (w : World) :
  Calls Tryz.prog 77 #[.slice none 0 0, .int .i64 n] w fun e w' => ∃ v, e = .returned v ∧ Kd.R Kd.string 9 w' w.heap.size (fun k => w.heap.size ≤ k) v [] ∧ Below w.heap.size w w' := by
 have hwn : IntKind.i64.wrap n = n := by rw [IntKind.wrap_i64]; omega
 by_cases hn : n = 0
 ·subst hn
  go_enter Tryz.func77, Tryz.ntmps77
  go_wp2
  go_ret
  exact ⟨_, rfl, Kd.R_nil _ _ _ _ _, Below.refl _ _⟩
 ·have hp : 0 < n := by omega
  have hnn : ¬ n < 0 := by omega
  go_enter Tryz.func77, Tryz.ntmps77
  go_wp2_with ((with_reducible refine gate_builtin (b := .append) (xs := #[.tmp 20, .tmp 21]) rfl ?_); at_builtin; refine Kd.R_append_zeros Kd.string (w0 := w) w.heap.size rfl (.tmp 20) (.tmp 21) 52 3 9 (.string ⟨#[]⟩) 16 rfl Tryz.underlying52 Tryz.underlying3 info9 rfl (by decide) (by omega) (.slice none 0 0) [] ⟨#[]⟩ n (fun k => w.heap.size ≤ k) rfl rfl rfl (fun _ h => h) (Kd.R_nil _ _ _ _ _) h0 (Below.refl _ _) (Nat.le_refl _) (by simp; omega) ?_; intro v1 w1 hR hB hg hat; obtain ⟨inner, hown⟩ := Kd.R_own hR; obtain ⟨g, cap, cur, rfl, hbase, hgb, hcap, hmx, hcs⟩ : ∃ g cap cur, v1 = .slice (some ⟨g, 0, none⟩) n.toNat cap ∧ w.heap.size ≤ g ∧ w1.heap[g]? = some (.cells cur 9 (0, 0)) ∧ n.toNat ≤ cap ∧ cap ≤ maxLen ∧ cur.size = cap * 1 := (by
   simp only [List.nil_append, List.length_replicate] at hown
   rcases hown.2 with ⟨_, hz⟩ | ⟨g, cap, cur, hv, a1, a2, a3, a4, a5, _⟩
   ·omega
   ·exact ⟨g, cap, cur, hv, a1, a2, a3, a4, a5⟩); have HB := Aside0.mk hB; have HG := Aside0.mk hgb; clear hR hown hB hg hat hgb)
  go_ret
  refine ⟨_, rfl, Kd.R_of_own (enc := Value.string) ⟨rfl, .inr ⟨g, cap, cur, rfl, hbase, HG.out, Nat.zero_le _, hmx, hcs, by simp [encs]⟩⟩ (fun k hk => ?_), HB.out⟩
  have : g = k := by simpa [Value.ownBlock] using hk
  omega
/-- All texts of all rows. -/
def allOf (ll : List (List ByteArray)) : List ByteArray := ll.flatten
def slices_Concat_string_string.f (ll : List (List ByteArray)) : Option (List ByteArray) := if (allOf ll).length ≤ 1000000 ∧ ll.length ≤ 1000000 then some (allOf ll) else none
theorem allOf_take (ll : List (List ByteArray)) (i : Nat) (hi : i < ll.length) : allOf (ll.take (i + 1)) = allOf (ll.take i) ++ ll.getD i [] := by
 unfold allOf
 rw [List.take_add_one, List.flatten_append]
 congr 1
 rw [List.getD_eq_getElem?_getD, List.getElem?_eq_getElem hi]
 simp
theorem allOf_le (ll : List (List ByteArray)) (i : Nat) : (allOf (ll.take i)).length ≤ (allOf ll).length := by
 unfold allOf
 conv => rhs; rw [← List.take_append_drop i ll]
 rw [List.flatten_append, List.length_append]
 omega
set_option maxHeartbeats 2000000 in
set_option maxRecDepth 100000 in
theorem slices_Concat_string_string.calls (A0 : Option Addr) (c0 : Nat) (ll : List (List ByteArray)) (r : List ByteArray) (w : World) (hr0 : Kd.C (Kd.slice 9 Kd.string) w A0 ll.length ll) (hc0 : ll.length ≤ c0) (h : slices_Concat_string_string.f ll = some r) :
  Calls Tryz.prog 64 #[.slice A0 ll.length c0] w fun e w' => ∃ v, e = .returned v ∧ Kd.R Kd.string 9 w' w.heap.size (fun k => w.heap.size ≤ k) v r ∧ Below w.heap.size w w' := by
 unfold slices_Concat_string_string.f at h
 by_cases hs : (allOf ll).length ≤ 1000000 ∧ ll.length ≤ 1000000
 ·rw [if_pos hs] at h
  obtain rfl := Option.some.inj h
  obtain ⟨h1, h2⟩ := hs
  clear h
  -- one row of the rows
  have G := Aside0.mk (fun (W : World) (hW : Below w.heap.size w W) (i : Nat) (hi : i < ll.length) => show ∃ ad A c, A0 = some ad ∧ W.cell? (ad.add i) = some (.slice A (ll.getD i []).length c) ∧ (ll.getD i []).length ≤ c ∧ Kd.C Kd.string W A (ll.getD i []).length (ll.getD i []) from by
   obtain ⟨ad, cs, e, hl, ⟨A, c, rfl, hlc, hC⟩, hcell⟩ := Kd.C_get (Kd.C_below hr0 hW) [] (i : Int) (by omega) (by omega)
   have := hcell 0 _ rfl
   exact ⟨ad, A, c, e, by simpa [Kd.slice] using this, hlc, hC⟩)
  clear hr0
  have hgrow := fun (W : World) (n : Int) (a : 0 ≤ n) (b : n ≤ 1000000) => growNil_calls n a b W
  have HGR := Aside0.mk hgrow
  clear hgrow
  go_enter Tryz.func64, Tryz.ntmps64
  go_upto_region 3 with fail
  go_loopg [3, 5, 11] ll.length (fun gg v3 v5 v11 wr => ∃ i : Nat, v11 = .int .i64 i ∧ i ≤ ll.length ∧ ll.length - i ≤ gg ∧ v3 = .int .i64 ((allOf (ll.take i)).length : Nat) ∧ wr = w)
  case atStart => exact ⟨0, rfl, by omega, by omega, by simp [allOf], rfl⟩
  case round =>
   obtain ⟨i, rfl, hi, hgg, rfl, hw⟩ := hrel
   have hw := hw.symm
   subst hw
   by_cases hlt : i < ll.length
   ·obtain ⟨ad, A, c, rfl, hcell, hlc, hC⟩ := G.out w (Below.refl _ _) i hlt
    have hlt' : (i : Int) < (ll.length : Int) := by omega
    have e1 := congrArg List.length (allOf_take ll i hlt)
    have e2 := allOf_le ll (i + 1)
    rw [List.length_append] at e1
    generalize ll.getD i [] = row at *
    obtain ⟨L1, hL1⟩ : ∃ L1, L1 = (allOf (ll.take (i + 1))).length := ⟨_, rfl⟩
    obtain ⟨L0, hL0⟩ : ∃ L0, L0 = (allOf (ll.take i)).length := ⟨_, rfl⟩
    rw [← hL0] at e1
    rw [← hL1] at e1 e2
    simp only [← hL0]
    have HL := Aside0.mk hL1
    clear hL1 hL0 hC
    have hn2 : IntKind.i64.wrap ((L0 : Int) + (row.length : Int)) = (L1 : Int) := by rw [IntKind.wrap_i64]; omega
    have hn3 : ¬ (L1 : Int) < 0 := by omega
    clear e1 e2
    go_wp2_with fail
    go_roundg (ll.length - (i + 1))
    case measure => omega
    case rel => exact ⟨i + 1, by go_num, by omega, by omega, by rw [HL.out], rfl⟩
   ·obtain rfl : i = ll.length := by omega
    rw [List.take_length]
    have g1 := HGR.out w ((allOf ll).length : Nat) (by omega) (by omega)
    obtain ⟨L, hL⟩ : ∃ L, L = (allOf ll).length := ⟨_, rfl⟩
    rw [← hL] at g1 ⊢
    have HH1 := Aside0.mk h1
    clear hL h1
    go_wp2_with (go_at_call 77; refine g1.mono ?_; clear g1; rintro e W ⟨v, rfl, hR, hB⟩; have HR := Aside0.mk hR; have HB := Aside0.mk hB; clear hR hB)
    go_loopg [6, 8, 27] ll.length (fun gg v6 v8 v27 W2 => ∃ i : Nat, v27 = .int .i64 i ∧ i ≤ ll.length ∧ ll.length - i ≤ gg ∧ Aside0 (Kd.R Kd.string 9 W2 w.heap.size (fun k => w.heap.size ≤ k) v6 (allOf (ll.take i))) ∧ Aside0 (Below w.heap.size w W2))
    case atStart => exact ⟨0, rfl, by omega, by omega, HR, HB⟩
    case round =>
     obtain ⟨i, rfl, hi, hgg, HR2, HB2⟩ := hrel
     by_cases hlt : i < ll.length
     ·obtain ⟨ad, A, c, rfl, hcell, hlc, hC⟩ := G.out _ HB2.out i hlt
      have hlt' : (i : Int) < (ll.length : Int) := by omega
      have e1 := allOf_take ll i hlt
      have e2 := allOf_le ll (i + 1)
      obtain ⟨row, hrow⟩ : ∃ row, row = ll.getD i [] := ⟨_, rfl⟩
      rw [← hrow] at hcell hlc hC e1
      clear hrow
      rw [e1, List.length_append] at e2
      have h1 := HH1.out
      have E1 := Aside0.mk e1
      have HC := Aside0.mk hC
      clear e1 hC HR HB
      go_wp2_with ((with_reducible refine gate_builtin (b := .append) (xs := #[.tmp 31, .tmp 32]) rfl ?_); at_builtin; refine Kd.R_append_rows Kd.string (w0 := w) w.heap.size rfl (.tmp 31) (.tmp 32) 52 9 (.string ⟨#[]⟩) 16 rfl Tryz.underlying52 info9 rfl (by decide) (by omega) _ (allOf (ll.take i)) row _ _ _ (fun k => w.heap.size ≤ k) (fun _ => False) rfl rfl HR2.out HC.out (fun _ _ h => h) (fun _ h => h.elim) (fun k hk => Nat.le_trans HB2.out.size hk) HB2.out HB2.out.size (by omega) ?_; intro v1 w1 hR3 hB3 hg hat; have HR3 := Aside0.mk hR3; have HB3 := Aside0.mk hB3; clear hR3 hB3 hg hat)
      go_roundg (ll.length - (i + 1))
      case measure => omega
      case rel => exact ⟨i + 1, by go_num, by omega, by omega, ⟨by rw [E1.out]; exact HR3.out⟩, HB3⟩
     ·obtain rfl : i = ll.length := by omega
      go_wp2_with fail
      go_ret
      exact ⟨_, rfl, by have := HR2.out; rwa [List.take_length] at this, HB2.out⟩
 ·rw [if_neg hs] at h
  cases h
end Go.Proofs.YtjeipkfeihahdaaGreatDoor
