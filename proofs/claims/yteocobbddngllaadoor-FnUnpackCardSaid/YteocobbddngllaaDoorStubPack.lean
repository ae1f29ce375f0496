/- The program's Pack: its loops over a builder, and what the call comes to. -/
import Derived.Test.YteocobbddngllaaDoorStubA
import Derived.Test.YteocobbddngllaaDoorLemGet2
import Derived.Test.YteocobbddngllaaDoorPx5
namespace Go.Proofs.YteocobbddngllaaDoor
set_option linter.unusedVariables false
set_option linter.unusedSimpArgs false
open Go.RowKit Go.Proofs.YteocobbddngllaaDoor.P Go.Proofs.YteocobbddngllaaDoor.Lem Go.Proofs.YteocobbddngllaaDoorW.PrintWords Go.Proofs.YteocobbddngllaaDoorW.PrintLast Go.Proofs.YteocobbddngllaaDoorW.PrintMore
theorem repl_calls (s : List UInt8) (hs : s.length ≤ 100000) (w : World) (hSB : SBw w) :
    Calls Tryd.prog 32 #[.string (B s), .string ⟨#[0]⟩, .string ⟨#[]⟩] w fun e w' => e = .returned (.string (B (s.filter notZero))) ∧ Below w.heap.size w w' := by
  obtain ⟨m, hm⟩ := hSB.out
  have h := Tryd.strings_ReplaceAll (B s) ⟨#[0]⟩ ⟨#[]⟩ m w (by rw [B_size]; omega) hm (by decide) (by rw [B_size]; show s.length + _ * 0 ≤ _; omega)
  rw [B_data] at h
  have e : Lib.replaceAll s (⟨#[0]⟩ : ByteArray).data.toList (⟨#[]⟩ : ByteArray).data.toList = s.filter notZero := replaceAll_zero s
  rw [e] at h
  exact h
theorem packL_len : ∀ (n : Nat) (t : List UInt8), (packL n t).length ≤ 2100 * n := by
  intro n
  induction n with
  | zero => intro t; simp [packL]
  | succ n ih =>
    intro t
    unfold packL
    split
    · simp
    · have hf : ((t.take 8).filter notZero).length ≤ 8 := Nat.le_trans (List.length_filter_le _ _) (by rw [List.length_take]; omega)
      rw [List.length_cons, List.length_append]
      have h1 := (folL_le zeroW 255 (t.drop 8)).1
      have h2 := (folL_le fewW 255 (t.drop 8)).1
      split
      · rw [List.length_cons]; have := ih ((t.drop 8).drop (8 * folL zeroW 255 (t.drop 8))); omega
      · split
        · rw [List.length_cons, List.length_append, List.length_take]; have := ih ((t.drop 8).drop (8 * folL fewW 255 (t.drop 8))); omega
        · have := ih (t.drop 8); omega
theorem run_from (t : List UInt8) (l : Int) (n : Nat) (hl : l = n) (h : n ≤ t.length) (W : World) :
    (Instr.slice 9 (.string (B t)) (some (.int .i64 l)) none none).run Tryd.prog W = .ok (.string (B (t.drop n))) W := by
  subst hl
  rw [run_slice_string_l W 9 (B t) Tryd.underlying9 .i64 n (by omega) (by rw [B_size]; omega), B_size, Int.toNat_natCast, B_extract, List.take_of_length_le (Nat.le_refl _)]
theorem run_upto (t : List UInt8) (l : Int) (n : Nat) (hl : l = n) (h : n ≤ t.length) (W : World) :
    (Instr.slice 9 (.string (B t)) none (some (.int .i64 l)) none).run Tryd.prog W = .ok (.string (B (t.take n))) W := by
  subst hl
  rw [run_slice_string_h W 9 (B t) Tryd.underlying9 .i64 n (by omega) (by rw [B_size]; omega), Int.toNat_natCast, B_extract, List.drop_zero]
/-- What is carried over the calls: the builder, the old blocks, a bound. -/
def Held (w1 : World) (N : Nat) (a : ByteArray) (w : World) : Prop := (Bu w1.heap.size a w ∧ Below w1.heap.size w1 w) ∧ a.size ≤ N
theorem stepB {w1 w : World} {a : ByteArray} {N : Nat} (h : Held w1 N a w) (hN : N ≤ 100000000) (c : UInt8) :
    Calls Tryd.prog 30 #[.pointer (some ⟨w1.heap.size, 0, none⟩), .int .u8 (c.toNat : Int)] w fun e w' => e = .returned .nilIface ∧ Held w1 (N + 1) (a ++ B [c]) w' := by
  refine (Bu.byte h.1.1 h.1.2.size c (by have := h.2; omega)).mono ?_
  rintro e w' ⟨he, h1, h2⟩
  exact ⟨he, ⟨h1, h.1.2.trans h2⟩, by rw [ByteArray.size_append, B_size]; have := h.2; simp; omega⟩
theorem stepS {w1 w : World} {a : ByteArray} {N : Nat} (h : Held w1 N a w) (hN : N ≤ 100000000) (s : ByteArray) (hs : s.size ≤ 3000) :
    Calls Tryd.prog 31 #[.pointer (some ⟨w1.heap.size, 0, none⟩), .string s] w fun e w' => e = .returned (.tuple #[.int .i64 s.size, .nilIface]) ∧ Held w1 (N + 3000) (a ++ s) w' := by
  refine (Bu.write h.1.1 h.1.2.size s (by have := h.2; omega)).mono ?_
  rintro e w' ⟨he, h1, h2⟩
  exact ⟨he, ⟨h1, h.1.2.trans h2⟩, by rw [ByteArray.size_append]; have := h.2; omega⟩
theorem stepR {w0 w1 w : World} {a : ByteArray} {N : Nat} (h : Held w1 N a w) (hS : SBw w0) (hD : Drawn0 w0 w1) (s : List UInt8) (hs : s.length ≤ 100000) :
    Calls Tryd.prog 32 #[.string (B s), .string ⟨#[0]⟩, .string ⟨#[]⟩] w fun e w' => e = .returned (.string (B (s.filter notZero))) ∧ Held w1 N a w' := by
  refine (repl_calls s hs w ((hS.mv hD.below).mv h.1.2)).mono ?_
  rintro e w' ⟨he, h1⟩
  exact ⟨he, ⟨h.1.1.below h1, below_step h.1.2 h1⟩, h.2⟩
theorem byte_of {n : Nat} (h : n < 256) : ∃ b : UInt8, b.toNat = n ∧ UInt8.ofNat n = b := ⟨UInt8.ofNat n, by rw [UInt8.toNat_ofNat']; omega, rfl⟩
set_option maxHeartbeats 8000000 in
set_option maxRecDepth 100000 in
theorem pack_yes (a : ByteArray) (R : List UInt8) (w : World) (hSB : SBw w) (hw : IsW a) (hr : packL (a.size + 1) a.data.toList = R) :
    Calls Tryd.prog 12 #[.string a] w fun e w' => e = .returned (.string (B R)) ∧ Below w.heap.size w w' := by
  have hI := fun W => impl_isWords.calls a true W (by rw [isWords_f, decide_eq_true hw])
  have HRL := Aside0.mk (show R.length ≤ 5000000 by
    rw [← hr]; have h1 := packL_len (a.size + 1) a.data.toList
    have h2 : (a.size : Int) ≤ 1600 := hw.2
    omega)
  have HA := Aside0.mk (show a.data.toList.length % 8 = 0 ∧ a.data.toList.length ≤ 1600 by
    rw [data_length]; have h1 : (a.size : Int) % 8 = 0 := hw.1
    have h2 : (a.size : Int) ≤ 1600 := hw.2
    omega)
  obtain ⟨n0, hn0⟩ : ∃ n0, n0 = a.size := ⟨_, rfl⟩
  rw [← hn0] at hr
  have HN := Aside0.mk (show a.data.toList.length ≤ n0 by rw [data_length, hn0]; omega)
  have ha : a = B a.data.toList := (B_of a).symm
  generalize a.data.toList = t0 at *
  subst ha
  have HR := Aside0.mk hr
  have HS := Aside0.mk hSB
  clear hr hSB hw hn0
  go_enter Tryd.func12, Tryd.ntmps12
  go_wp2_with (go_at_call 29; refine (hI _).mono ?_; rintro e w1 ⟨rfl, hd⟩; have HD := Aside0.mk hd; clear hd hI)
  go_loopg [0] 1601 (fun gg s0 wr => ∃ (t acc : List UInt8) (n : Nat), s0 = .string (B t) ∧ Aside0 (t.length ≤ gg ∧ t.length % 8 = 0 ∧ t.length ≤ 1600 ∧ t.length ≤ n) ∧ Aside0 (Bu w1.heap.size (B acc) wr ∧ Below w1.heap.size w1 wr) ∧ Aside0 (acc ++ packL (n + 1) t = R))
  case atStart => exact ⟨t0, [], n0, rfl, ⟨by have := HA.out; omega, HA.out.1, HA.out.2, HN.out⟩, ⟨Bu.fresh_below (Below.refl _ _)⟩, ⟨HR.out⟩⟩
  case round =>
    clear HR HN HA
    obtain ⟨t, acc, n, rfl, HK, HB, HF⟩ := hrel
    have hlen : acc.length ≤ 5000000 := by
      have h1 := congrArg List.length HF.out
      rw [List.length_append] at h1
      have := HRL.out; omega
    have HL := Aside0.mk hlen
    clear hlen
    by_cases ht : t = []
    · subst ht
      have hF := HF.out
      have hp : packL (n + 1) ([] : List UInt8) = [] := rfl
      rw [hp, List.append_nil] at hF
      subst hF
      have hz : (B []).toList = [] := B_toList []
      clear HF HK
      go_wp2_with (go_at_call 37; refine (Bu.string HB.out.1 HB.out.2.size).mono ?_; rintro e w5 ⟨rfl, hb5⟩; have HV := Aside0.mk (HB.out.2.trans hb5); clear hb5)
      go_ret
      exact ⟨rfl, HD.out.below.trans (HV.out.mono (HD.out.below.size))⟩
    · have h8 : 8 ≤ t.length := by
        have h1 := HK.out
        have h2 : t.length ≠ 0 := fun h => ht (List.eq_nil_of_length_eq_zero h)
        omega
      have hz : (B t).size = t.length := B_size t
      have hne : ¬ (B t).toList = [] := by rw [B_toList]; exact ht
      have hne2 : (B t).toList.isEmpty = false := by rw [B_toList]; cases t with | nil => exact absurd rfl ht | cons => rfl
      have he1 : (B t).extract 0 8 = B (t.take 8) := by rw [B_extract, List.drop_zero]
      have he2 : (B t).extract 8 t.length = B (t.drop 8) := by rw [B_extract, List.take_of_length_le (Nat.le_refl _)]
      have hzw : (B (t.take 8)).size = 8 := by rw [B_size, List.length_take]; omega
      have hF := HF.out
      obtain ⟨n, rfl⟩ : ∃ m, n = m + 1 := ⟨n - 1, by have := HK.out; omega⟩
      unfold packL at hF
      rw [if_neg ht] at hF
      have HP := Aside0.mk hF
      have hwl : (t.take 8).length = 8 := by rw [List.length_take]; omega
      clear HF hF
      generalize t.take 8 = wd at *
      generalize hrs : t.drop 8 = rs at *
      have HRS := Aside0.mk (show rs.length + 8 = t.length by rw [← hrs, List.length_drop]; omega)
      clear hrs
      have HT := Aside0.mk ht
      clear ht
      go_wp2
      go_loopg [5, 6, 20] 9 (fun gg s5 _ s20 wx => ∃ (i x : Nat), s5 = .int .i64 x ∧ s20 = .int .i64 i ∧ Aside0 (i ≤ 8 ∧ 8 - i ≤ gg) ∧ Aside0 (x < 2 ^ i ∧ x + tagL (wd.drop i) i = tagL wd 0) ∧ Aside0 (wx = wr))
      case atStart => exact ⟨0, 0, rfl, rfl, ⟨by omega, by omega⟩, ⟨by decide, by rw [List.drop_zero]; omega⟩, ⟨rfl⟩⟩
      case round =>
        obtain ⟨i, x, rfl, rfl, HI, HX, ⟨rfl⟩⟩ := hrel
        by_cases hi : i < 8
        · have hd : wd.drop i = wd[i] :: wd.drop (i + 1) := List.drop_eq_getElem_cons (by omega)
          have hg : wd.getD i 0 = wd[i] := by rw [List.getD_eq_getElem?_getD, List.getElem?_eq_getElem (by omega)]; rfl
          have hX := HX.out.2
          have HX' := Aside0.mk HX.out.1
          rw [hd] at hX
          simp only [tagL] at hX
          have hx1 : (B wd)[i]'(by rw [hzw]; exact hi) = wd[i] := rfl
          clear hd hg HX
          generalize wd[i] = c at *
          by_cases hc : c = 0
          · rw [if_pos hc, Nat.zero_add] at hX
            have HX2 := Aside0.mk hX
            have hx2 := HX'.out
            clear hX
            have c1 : ((c.toNat : Int) != 0) = false := bne_eq_false_iff_eq.mpr ((tag0 c).2 hc)
            have c2 : c.toNat = 0 := by rw [hc]; rfl
            go_wp2
            go_roundg (8 - (i + 1))
            case measure => have := HI.out; omega
            case rel => exact ⟨i + 1, x, rfl, by have q_ := wrap64_small (i : Int) (by omega) (by omega); first | go_num | rw [q_], ⟨by omega, by omega⟩, ⟨by rw [Nat.pow_succ]; omega, HX2.out⟩, ⟨rfl⟩⟩
          · rw [if_neg hc] at hX
            have hx2 := HX'.out
            have hor : Go.bits .or .i64 (x : Int) (wrap64 ((2 : Int) ^ i)) = ((x + 2 ^ i : Nat) : Int) := or_tag ⟨x, Nat.lt_of_lt_of_le hx2 (Nat.pow_le_pow_right (by decide) (by omega : i ≤ 8))⟩ ⟨i, hi⟩ hx2
            have HO := Aside0.mk hor
            have HX2 := Aside0.mk hX
            clear hX hor
            have c1 : ((c.toNat : Int) != 0) = true := bne_iff_ne.mpr (fun h => hc ((tag0 c).1 h))
            have c2 : (c.toNat = 0) = False := eq_false (fun h => hc (UInt8.toNat_inj.1 (by rw [h]; rfl)))
            go_wp2
            go_roundg (8 - (i + 1))
            case measure => have := HI.out; omega
            case rel => exact ⟨i + 1, x + 2 ^ i, by rw [HO.out], by have q_ := wrap64_small (i : Int) (by omega) (by omega); first | go_num | rw [q_], ⟨by omega, by omega⟩, ⟨by rw [Nat.pow_succ]; omega, by have := HX2.out; omega⟩, ⟨rfl⟩⟩
        · have hi2 : ¬ (i : Int) < 8 := by omega
          obtain rfl : i = 8 := by have := HI.out; omega
          have hX := HX.out.2
          rw [List.drop_eq_nil_of_le (by omega)] at hX
          obtain rfl : x = tagL wd 0 := hX
          have hT : tagL wd 0 < 256 := by have := tagL_lt wd 0; rw [hwl] at this; omega
          have hP := HP.out
          obtain ⟨tg, htg, hof⟩ := byte_of hT
          rw [hof, ← htg] at hP
          rw [← htg]
          have HZ1 := Aside0.mk (show (B (wd.filter notZero)).size ≤ 3000 by rw [B_size]; exact Nat.le_trans (List.length_filter_le _ _) (by omega))
          have HU := Aside0.mk (show Held w1 5000000 (B acc) _ from ⟨HB.out, by rw [B_size]; exact HL.out⟩)
          have htm : ((tg.toNat : Int) % 256) = (tg.toNat : Int) := by have := tg.toNat_lt; omega
          clear hT htg hof HX HI HP HB
          by_cases t0 : tg = 0
          · rw [if_pos (by rw [t0]; rfl)] at hP
            have b0 : ((tg.toNat : Int) == 0) = true := by rw [beq_iff_eq]; exact (tag0 tg).2 t0
            have hM : folL zeroW 255 rs < 256 := by have := (folL_le zeroW 255 rs).1; omega
            have hM2 : 8 * folL zeroW 255 rs ≤ rs.length := (folL_le zeroW 255 rs).2
            have hfo := fun W => following_calls 34 zeroW pack1_calls (enters_of Tryd.func34 (by kernel_rfl) rfl) rs (by have := HRS.out; have := HK.out; omega) W
            obtain ⟨mb, hmb, hof⟩ := byte_of hM
            rw [hof, ← hmb] at hP
            rw [← hmb] at hM2
            rw [← hmb] at hfo
            have hmm : ((mb.toNat : Int) % 256) = (mb.toNat : Int) := by have := mb.toNat_lt; omega
            have hm1 : mb.toNat < 256 := mb.toNat_lt
            have hsl := fun W => run_from rs ((mb.toNat : Int) * 8) (8 * mb.toNat) (by omega) hM2 W
            have HP := Aside0.mk hP
            have HM := Aside0.mk hM2
            have HMB := Aside0.mk hm1
            clear hP hM hmb hof hM2 t0
            go_wp2_with (first | (go_at_call 30; refine (stepB HU.out (by decide) _).mono ?_; rintro e w5 ⟨rfl, hu⟩; have n_ := Aside0.mk hu; clear HU hu; have HU := n_; clear n_) | (go_at_call 32; refine (stepR HU.out HS.out HD.out wd (by omega)).mono ?_; rintro e w6 ⟨rfl, hu⟩; have n_ := Aside0.mk hu; clear HU hu; have HU := n_; clear n_) | (go_at_call 31; refine (stepS HU.out (by decide) _ (by first | exact HZ1.out | exact HZ2.out)).mono ?_; rintro e w7 ⟨rfl, hu⟩; have n_ := Aside0.mk hu; clear HU hu; have HU := n_; clear n_) | (go_at_call 33; refine (hfo _).mono ?_; rintro e w8 ⟨rfl, rfl⟩))
            go_roundg (rs.drop (8 * mb.toNat)).length
            case measure => rw [List.length_drop]; have := HRS.out; have := HK.out; omega
            case rel =>
              have hRS := HRS.out
              have hK := HK.out
              have hMM := HM.out
              have hU := HU.out.1
              rw [B_append, B_append, B_append] at hU
              exact ⟨rs.drop (8 * mb.toNat), _, n, rfl, ⟨Nat.le_refl _, by rw [List.length_drop]; omega, by rw [List.length_drop]; omega, by rw [List.length_drop]; omega⟩, ⟨hU⟩, ⟨by rw [← HP.out]; simp⟩⟩
          · have b0 : ((tg.toNat : Int) == 0) = false := by rw [beq_eq_false_iff_ne]; exact fun h => t0 ((tag0 tg).1 h)
            rw [if_neg (fun h => t0 (UInt8.toNat_inj.1 (by rw [h]; rfl)))] at hP
            by_cases t255 : tg = 255
            · rw [if_pos (by rw [t255]; rfl)] at hP
              have hM : folL fewW 255 rs < 256 := by have := (folL_le fewW 255 rs).1; omega
              have hM2 : 8 * folL fewW 255 rs ≤ rs.length := (folL_le fewW 255 rs).2
              have hfo := fun W => following_calls 36 fewW pack2_calls (enters_of Tryd.func36 (by kernel_rfl) rfl) rs (by have := HRS.out; have := HK.out; omega) W
              obtain ⟨mb, hmb, hof⟩ := byte_of hM
              rw [hof, ← hmb] at hP
              rw [← hmb] at hM2
              rw [← hmb] at hfo
              have hmm : ((mb.toNat : Int) % 256) = (mb.toNat : Int) := by have := mb.toNat_lt; omega
              have hm1 : mb.toNat < 256 := mb.toNat_lt
              have hsl := fun W => run_from rs ((mb.toNat : Int) * 8) (8 * mb.toNat) (by omega) hM2 W
              have hsu := fun W => run_upto rs ((mb.toNat : Int) * 8) (8 * mb.toNat) (by omega) hM2 W
              have HZ2 := Aside0.mk (show (B (rs.take (8 * mb.toNat))).size ≤ 3000 by rw [B_size, List.length_take]; omega)
              have b1 : ((tg.toNat : Int) == 255) = true := by rw [beq_iff_eq]; exact (tag255 tg).2 t255
              have HP := Aside0.mk hP
              have HM := Aside0.mk hM2
              have HMB := Aside0.mk hm1
              clear hP hM hmb hof hM2 t0 t255
              go_wp2_with (first | (go_at_call 30; refine (stepB HU.out (by decide) _).mono ?_; rintro e w5 ⟨rfl, hu⟩; have n_ := Aside0.mk hu; clear HU hu; have HU := n_; clear n_) | (go_at_call 32; refine (stepR HU.out HS.out HD.out wd (by omega)).mono ?_; rintro e w6 ⟨rfl, hu⟩; have n_ := Aside0.mk hu; clear HU hu; have HU := n_; clear n_) | (go_at_call 31; refine (stepS HU.out (by decide) _ (by first | exact HZ1.out | exact HZ2.out)).mono ?_; rintro e w7 ⟨rfl, hu⟩; have n_ := Aside0.mk hu; clear HU hu; have HU := n_; clear n_) | (go_at_call 33; refine (hfo _).mono ?_; rintro e w8 ⟨rfl, rfl⟩))
              go_roundg (rs.drop (8 * mb.toNat)).length
              case measure => rw [List.length_drop]; have := HRS.out; have := HK.out; omega
              case rel =>
                have hRS := HRS.out
                have hK := HK.out
                have hMM := HM.out
                have hU := HU.out.1
                rw [B_append, B_append, B_append, B_append] at hU
                exact ⟨rs.drop (8 * mb.toNat), _, n, rfl, ⟨Nat.le_refl _, by rw [List.length_drop]; omega, by rw [List.length_drop]; omega, by rw [List.length_drop]; omega⟩, ⟨hU⟩, ⟨by rw [← HP.out]; simp⟩⟩
            · rw [if_neg (fun h => t255 (UInt8.toNat_inj.1 (by rw [h]; rfl)))] at hP
              have b1 : ((tg.toNat : Int) == 255) = false := by rw [beq_eq_false_iff_ne]; exact fun h => t255 ((tag255 tg).1 h)
              have HP := Aside0.mk hP
              clear hP t0 t255
              go_wp2_with (first | (go_at_call 30; refine (stepB HU.out (by decide) _).mono ?_; rintro e w5 ⟨rfl, hu⟩; have n_ := Aside0.mk hu; clear HU hu; have HU := n_; clear n_) | (go_at_call 32; refine (stepR HU.out HS.out HD.out wd (by omega)).mono ?_; rintro e w6 ⟨rfl, hu⟩; have n_ := Aside0.mk hu; clear HU hu; have HU := n_; clear n_) | (go_at_call 31; refine (stepS HU.out (by decide) _ (by first | exact HZ1.out | exact HZ2.out)).mono ?_; rintro e w7 ⟨rfl, hu⟩; have n_ := Aside0.mk hu; clear HU hu; have HU := n_; clear n_) | (go_at_call 33; refine (hfo _).mono ?_; rintro e w8 ⟨rfl, rfl⟩))
              go_roundg rs.length
              case measure => have := HRS.out; have := HK.out; omega
              case rel =>
                have hRS := HRS.out
                have hK := HK.out
                have hU := HU.out.1
                rw [B_append, B_append] at hU
                exact ⟨rs, _, n, rfl, ⟨Nat.le_refl _, by omega, by omega, by omega⟩, ⟨hU⟩, ⟨by rw [← HP.out]; simp⟩⟩
theorem pack_no (a : ByteArray) (w : World) (hw : ¬ IsW a) :
    Calls Tryd.prog 12 #[.string a] w fun e w' => e = .returned (.string ⟨#[]⟩) ∧ Below w.heap.size w w' := by
  have hI := fun W => impl_isWords.calls a false W (by rw [isWords_f, decide_eq_false hw])
  clear hw
  go_enter Tryd.func12, Tryd.ntmps12
  go_wp2_with (go_at_call 29; refine (hI _).mono ?_; rintro e w1 ⟨rfl, hd⟩; have HD := Aside0.mk hd; clear hd hI)
  go_ret
  exact ⟨rfl, HD.out.below⟩
def impl_Pack.f (a : ByteArray) : Option ByteArray := some (if IsW a then packV a else ⟨#[]⟩)
theorem impl_Pack.calls (a0 : ByteArray) (r : ByteArray) (w : World) (hSB : SBw w) (h : impl_Pack.f a0 = some r) :
    Calls Tryd.prog 12 #[.string a0] w fun e w' => e = .returned (.string r) ∧ Below w.heap.size w w' := by
  have h1 := Option.some.inj h
  by_cases hw : IsW a0
  · rw [if_pos hw] at h1
    rw [← h1]
    exact pack_yes a0 _ w hSB hw rfl
  · rw [if_neg hw] at h1
    rw [← h1]
    exact pack_no a0 w hw
end Go.Proofs.YteocobbddngllaaDoor
