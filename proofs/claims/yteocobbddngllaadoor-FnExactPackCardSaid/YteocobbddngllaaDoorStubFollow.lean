/- The program's noughts, following and the two closures that are handed to it. -/
import Derived.Test.YteocobbddngllaaDoorStubBuilder
import Derived.Test.YteocobbddngllaaDoorLemPack
import Derived.Shelf.Abstract
namespace Go.Proofs.YteocobbddngllaaDoor
set_option linter.unusedVariables false
set_option linter.unusedSimpArgs false
open Go.RowKit Go.Proofs.YteocobbddngllaaDoor.Lem Go.Proofs.YteocobbddngllaaDoorW.PrintWords Go.Proofs.YteocobbddngllaaDoorW.PrintLast Go.Proofs.YteocobbddngllaaDoorW.PrintMore
theorem run_cut (s : ByteArray) (l h : Int) (h0 : 0 ≤ l) (h1 : l ≤ h) (h2 : h ≤ s.size) (W : World) :
    (Instr.slice 9 (.string s) (some (.int .i64 l)) (some (.int .i64 h)) none).run Tryd.prog W = .ok (.string (s.extract l.toNat h.toNat)) W := by
  simp [Instr.slice, run_underlying Tryd.underlying9, Instr.sliceBounds, run_sliceBound, sliced, *, (by omega : 0 ≤ h)]
  rw [run_sliceBound W .i64 l h.toNat .sliceB h0 (by omega)]
  rfl
theorem noughts_calls (s : ByteArray) (w : World) :
    Calls Tryd.prog 35 #[.string s] w fun e w' => e = .returned (.int .i64 (s.data.toList.count 0 : Nat)) ∧ w' = w := by
  have hc := fun W => Tryd.strings_Count_one s 0 W
  go_enter Tryd.func35, Tryd.ntmps35
  go_wp2_with (go_at_call 63; refine (hc _).mono ?_; rintro e w' ⟨rfl, rfl⟩)
  go_ret
  exact ⟨rfl, rfl⟩
theorem retB {a b : Bool} (h : a = b) : Ending.returned (.bool a) = Ending.returned (.bool b) := by rw [h]
theorem pack1_calls (s : ByteArray) (w : World) :
    Calls Tryd.prog 34 #[.string s] w fun e w' => e = .returned (.bool (zeroW s.data.toList)) ∧ w' = w := by
  have hc := fun W => noughts_calls s W
  have hz : zeroW s.data.toList = (((s.data.toList.count 0 : Nat) : Int) == 8) := by
    unfold zeroW
    by_cases h : s.data.toList.count 0 = 8
    · rw [decide_eq_true h]; symm; rw [beq_iff_eq]; omega
    · rw [decide_eq_false h]; symm; rw [beq_eq_false_iff_ne]; omega
  rw [hz]
  clear hz
  generalize s.data.toList.count 0 = n at *
  go_enter Tryd.func34, Tryd.ntmps34
  go_wp2_with (go_at_call 35; refine (hc _).mono ?_; rintro e w' ⟨rfl, rfl⟩)
  go_ret
  exact ⟨rfl, rfl⟩
theorem pack2_calls (s : ByteArray) (w : World) :
    Calls Tryd.prog 36 #[.string s] w fun e w' => e = .returned (.bool (fewW s.data.toList)) ∧ w' = w := by
  have hc := fun W => noughts_calls s W
  have hz : fewW s.data.toList = decide (((s.data.toList.count 0 : Nat) : Int) ≤ 1) := by
    unfold fewW
    rw [decide_eq_decide]; omega
  rw [hz]
  clear hz
  generalize s.data.toList.count 0 = n at *
  go_enter Tryd.func36, Tryd.ntmps36
  go_wp2_with (go_at_call 35; refine (hc _).mono ?_; rintro e w' ⟨rfl, rfl⟩)
  go_ret
  exact ⟨rfl, rfl⟩
set_option maxHeartbeats 2000000 in
set_option maxRecDepth 100000 in
theorem following_calls (g : Nat) (p : List UInt8 → Bool) (hg : ∀ (s : ByteArray) (W : World), Calls Tryd.prog g #[.string s] W fun e w' => e = .returned (.bool (p s.data.toList)) ∧ w' = W)
    (eg : ∀ args w, (callFunc g args).run Tryd.prog w = .ok (.enter g args) w) (t : List UInt8) (ht : t.length ≤ 100000) (w : World) :
    Calls Tryd.prog 33 #[.string (B t), .func (.func g) #[] #[]] w fun e w' => e = .returned (.int .i64 (folL p 255 t : Nat)) ∧ w' = w := by
  have hz := B_size t
  generalize hR0 : folL p 255 t = R
  have hR := Aside0.mk hR0
  clear hR0
  go_enter Tryd.func33, Tryd.ntmps33
  go_wp2
  go_loopg [5] 256 (fun gg s5 wr => ∃ kk : Nat, s5 = .int .i64 kk ∧ Aside0 (kk ≤ 255 ∧ 255 - kk ≤ gg) ∧ Aside0 (wr = w) ∧ Aside0 (kk + folL p (255 - kk) (t.drop (8 * kk)) = R))
  case atStart => exact ⟨0, rfl, ⟨by omega, by omega⟩, ⟨rfl⟩, ⟨by rw [← hR.out]; simp⟩⟩
  case round =>
    clear hR
    obtain ⟨kk, rfl, HK, ⟨rfl⟩, HF⟩ := hrel
    have hF := HF.out
    by_cases h1 : kk < 255
    · obtain ⟨m, hm⟩ : ∃ m, 255 - kk = m + 1 := ⟨255 - kk - 1, by omega⟩
      rw [hm] at hF
      simp only [folL, List.length_drop] at hF
      by_cases h2 : 8 ≤ t.length - 8 * kk
      · rw [if_pos h2] at hF
        have c1 : (kk : Int) < 255 := by omega
        have c2 : ((kk : Int) + 1) * 8 ≤ ((B t).size : Int) := by rw [hz]; omega
        have he : ((B t).extract ((kk : Int) * 8).toNat (((kk : Int) + 1) * 8).toNat).data.toList = (t.drop (8 * kk)).take 8 := by
          rw [B_extract, B_data, List.drop_take]; congr 1
          · omega
          · congr 1; omega
        have hg1 := fun W => hg ((B t).extract ((kk : Int) * 8).toNat (((kk : Int) + 1) * 8).toNat) W
        rw [he] at hg1
        have hsl := fun W => run_cut (B t) ((kk : Int) * 8) (((kk : Int) + 1) * 8) (by omega) (by omega) c2 W
        clear he hg HF
        generalize p ((t.drop (8 * kk)).take 8) = b at hg1 hF
        cases b with
        | true =>
          rw [if_pos rfl, List.drop_drop] at hF
          have hR2 : kk + 1 + folL p (255 - (kk + 1)) (t.drop (8 * (kk + 1))) = R := by
            have e5 : 255 - (kk + 1) = m := by omega
            have h8 : 8 * (kk + 1) = 8 * kk + 8 := by omega
            rw [e5, h8]; omega
          have HR2 := Aside0.mk hR2
          clear hF hR2
          go_wp2_with (go_at_fn g; refine (hg1 _).mono ?_; rintro e w' ⟨rfl, rfl⟩)
          go_roundg (255 - (kk + 1))
          case measure => have := HK.out; omega
          case rel => exact ⟨kk + 1, by have q_ := wrap64_small (kk : Int) (by omega) (by omega); first | go_num | rw [q_], ⟨by omega, by omega⟩, ⟨rfl⟩, HR2⟩
        | false =>
          rw [if_neg (by decide)] at hF
          go_wp2_with (go_at_fn g; refine (hg1 _).mono ?_; rintro e w' ⟨rfl, rfl⟩)
          go_ret
          exact ⟨by rw [← hF]; rfl, rfl⟩
      · rw [if_neg h2] at hF
        have c1 : (kk : Int) < 255 := by omega
        have c2 : ¬ ((kk : Int) + 1) * 8 ≤ (t.length : Int) := by omega
        clear HF
        go_wp2
        go_ret
        exact ⟨by rw [← hF]; rfl, rfl⟩
    · have h0 : 255 - kk = 0 := by omega
      rw [h0] at hF
      simp only [folL] at hF
      have c1 : ¬ (kk : Int) < 255 := by omega
      clear HF
      go_wp2
      go_ret
      exact ⟨by rw [← hF]; rfl, rfl⟩
end Go.Proofs.YteocobbddngllaaDoor
