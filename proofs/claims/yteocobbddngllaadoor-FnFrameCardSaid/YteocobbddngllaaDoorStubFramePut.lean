/- The program's FramePut: its two loops over a builder, and what the call comes to. -/
import Derived.Test.YteocobbddngllaaDoorStubA
import Derived.Test.YteocobbddngllaaDoorLemFramePut
import Derived.Test.YteocobbddngllaaDoorPx15
import Derived.Test.YteocobbddngllaaDoorPx16
namespace Go.Proofs.YteocobbddngllaaDoor
set_option linter.unusedVariables false
set_option linter.unusedSimpArgs false
open Go.RowKit Go.Proofs.YteocobbddngllaaDoor.P Go.Proofs.YteocobbddngllaaDoor.Lem Go.Proofs.YteocobbddngllaaDoorW.PrintWords Go.Proofs.YteocobbddngllaaDoorW.PrintLast Go.Proofs.YteocobbddngllaaDoorW.PrintMore
def impl_FramePut.f (l : List ByteArray) : Option ByteArray :=
  if (l.length : Int) ≤ 1048576 ∧ (∀ x ∈ l, (x.size : Int) ≤ 1048576) then some (if frameOkV l = true then frameV l else ⟨#[]⟩) else none
set_option maxHeartbeats 4000000 in
set_option maxRecDepth 100000 in
theorem framePut_yes (A0 : Option Addr) (c0 : Nat) (l0 : List ByteArray) (r : ByteArray) (w : World) (hr0 : Kd.C Kd.string w A0 l0.length l0) (hc0 : l0.length ≤ c0) (hl : l0.length ≤ 1048576) (hs : ∀ x ∈ l0, x.size ≤ 1048576) (hok : frameOkV l0 = true) (hsum : sumSize l0 ≤ 1000000000) (hr : frameV l0 = r) :
    Calls Tryd.prog 14 #[.slice A0 l0.length c0] w fun e w' => e = .returned (.string r) ∧ Below w.heap.size w w' := by
  have hF := fun W h => impl_FrameOk.calls (l0.length + 1) A0 c0 l0 true W h hc0 ((implFrameOk_f l0 hl hs (l0.length + 1) (by omega)).trans (by rw [hok]))
  have hB4 := fun (n : Int) (W : World) => impl_bytesOf.calls 9 n 4 (le4 n) W (bytesOf_f n 4 (by omega) 9 (by omega))
  have HR0 := Aside0.mk hr0
  have HR := Aside0.mk hr
  have HS := Aside0.mk hs
  clear hr0 hr hs hok
  go_enter Tryd.func14, Tryd.ntmps14
  go_wp2_with (first | (go_at_call 18; refine (hF _ HR0.out).mono ?_; rintro e w1 ⟨rfl, hd⟩; have HD := Aside0.mk hd; clear hd) | (go_at_call 40; refine (hB4 _ _).mono ?_; rintro e w2 ⟨rfl, hb2⟩; have HU := Aside0.mk (Bu.fresh_below hb2); clear hb2) | (go_at_call 31; refine (Bu.write HU.out.1 HU.out.2.size _ (by rw [le4_size]; decide)).mono ?_; rintro e w3 ⟨rfl, hu, hb3⟩; have HV := Aside0.mk (And.intro hu (HU.out.2.trans hb3)); clear hu hb3 HU hF))
  go_loopg [5, 18] l0.length (fun gg _ s18 wr => ∃ (kk : Nat) (acc : ByteArray), s18 = .int .i64 kk ∧ Aside0 (kk ≤ l0.length ∧ l0.length - kk ≤ gg) ∧ Aside0 (Bu w1.heap.size acc wr ∧ Below w1.heap.size w1 wr) ∧ Aside0 (putSizes (l0.drop kk) acc = headV l0))
  case atStart => exact ⟨0, _, rfl, ⟨by omega, by omega⟩, HV, ⟨by rw [List.drop_zero, empty_add]; rfl⟩⟩
  case round =>
    clear HV
    obtain ⟨kk, acc, rfl, HK, HB, HF⟩ := hrel
    have hz := congrArg ByteArray.size HF.out
    unfold headV at hz
    rw [putSizes_size, putSizes_size, le4_size, List.length_drop] at hz
    by_cases hlt : kk < l0.length
    · have hltz : (kk : Int) < (l0.length : Int) := by omega
      obtain ⟨ad, e0, hx0⟩ := Kd.at_string HR0.out (kk : Int) (by omega) hltz
      cases e0
      rw [Int.toNat_natCast] at hx0
      replace hx0 := (HD.out.below.cell (World.block_lt_of_cell? w _ hx0)).trans hx0
      replace hx0 := (HB.out.2.cell (World.block_lt_of_cell? w1 _ hx0)).trans hx0
      have hd : l0.drop kk = rdOf ByteArray.empty l0 (kk : Int) :: l0.drop (kk + 1) := by
        rw [List.drop_eq_getElem_cons hlt]; congr 1; exact (rs_get l0 kk hlt).symm
      have hsz : (rdOf ByteArray.empty l0 (kk : Int)).size ≤ 1048576 := by
        have e : rdOf ByteArray.empty l0 (kk : Int) = l0[kk] := rs_get l0 kk hlt
        rw [e]; exact HS.out _ (List.getElem_mem _)
      have HF1 := HF.out
      rw [hd] at HF1
      have HF2 : Aside0 (putSizes (l0.drop (kk + 1)) (acc ++ le4 (((rdOf ByteArray.empty l0 (kk : Int)).size : Int) / 8)) = headV l0) := ⟨HF1⟩
      clear HF1 HF hd
      generalize rdOf ByteArray.empty l0 (kk : Int) = seg at hx0 HF2 hsz
      have hw : wrap64 ((seg.size : Int) / 8) = (seg.size : Int) / 8 := by unfold wrap64; omega
      go_wp2_with (first | (go_at_call 40; refine (hB4 _ _).mono ?_; rintro e w4 ⟨rfl, hb4⟩; have HU := Aside0.mk (And.intro (Bu.below HB.out.1 hb4) (below_step HB.out.2 hb4)); clear hb4) | (go_at_call 31; refine (Bu.write HU.out.1 HU.out.2.size _ (by rw [le4_size]; omega)).mono ?_; rintro e w5 ⟨rfl, hu, hb5⟩; have HV := Aside0.mk (And.intro hu (HU.out.2.trans hb5)); clear hu hb5 HU))
      go_roundg (l0.length - (kk + 1))
      case measure => have := HK.out; omega
      case rel =>
        first | rw [hw] at HV | skip
        exact ⟨kk + 1, _, by have q_ := wrap64_small (kk : Int) (by omega) (by omega); first | go_num | rw [q_], ⟨by omega, by omega⟩, HV, HF2⟩
    · have hlt0 : ¬ (kk : Int) < (l0.length : Int) := by omega
      have HF1 := HF.out
      rw [List.drop_eq_nil_of_le (by omega)] at HF1
      obtain rfl : acc = headV l0 := HF1
      clear HF
      have hq : (headV l0).size ≤ 5000000 := by omega
      have hrz := congrArg ByteArray.size HR.out
      unfold frameV at hrz
      rw [putSegs_size] at hrz
      have hpz : (pad8 (headV l0)).size ≤ 5000004 := by
        unfold pad8; split
        · omega
        · rw [ByteArray.size_append, le4_size]; omega
      have hF : putSegs l0 (pad8 (headV l0)) = r := HR.out
      clear hz HR
      have HF := Aside0.mk hF
      have HZ := Aside0.mk (show r.size ≤ 1005000004 by omega)
      clear hF hrz hpz
      obtain ⟨h8, hh⟩ : ∃ h8, h8 = pad8 (headV l0) := ⟨_, rfl⟩
      rw [← hh] at HF
      unfold pad8 at hh
      generalize headV l0 = acc at *
      by_cases h0 : (acc.size : Int) % 8 = 0
      · rw [if_pos h0] at hh
        subst hh
        have b0 : (((h8.size : Int) % 8) != 0) = false := bne_eq_false_iff_eq.mpr h0
        go_wp2_with (go_at_call 41; refine (Bu.len HB.out.1).mono ?_; rintro e w6 ⟨rfl, rfl⟩)
        go_loopg [7, 35] l0.length (fun gg _ s35 wr => ∃ (kk : Nat) (acc : ByteArray), s35 = .int .i64 kk ∧ Aside0 (kk ≤ l0.length ∧ l0.length - kk ≤ gg) ∧ Aside0 (Bu w1.heap.size acc wr ∧ Below w1.heap.size w1 wr) ∧ Aside0 (putSegs (l0.drop kk) acc = r))
        case atStart => exact ⟨0, _, rfl, ⟨by omega, by omega⟩, HB, ⟨by rw [List.drop_zero]; exact HF.out⟩⟩
        case round =>
          clear HB HK HF h0 b0
          obtain ⟨kk, acc, rfl, HK, HB, HF⟩ := hrel
          have hz := congrArg ByteArray.size HF.out
          rw [putSegs_size] at hz
          have hZ := HZ.out
          by_cases hlt : kk < l0.length
          · have hltz : (kk : Int) < (l0.length : Int) := by omega
            obtain ⟨ad, e0, hx0⟩ := Kd.at_string HR0.out (kk : Int) (by omega) hltz
            cases e0
            rw [Int.toNat_natCast] at hx0
            replace hx0 := (HD.out.below.cell (World.block_lt_of_cell? w _ hx0)).trans hx0
            replace hx0 := (HB.out.2.cell (World.block_lt_of_cell? w1 _ hx0)).trans hx0
            have hd : l0.drop kk = rdOf ByteArray.empty l0 (kk : Int) :: l0.drop (kk + 1) := by
              rw [List.drop_eq_getElem_cons hlt]; congr 1; exact (rs_get l0 kk hlt).symm
            rw [hd, sumSize_cons] at hz
            have HF1 := HF.out
            rw [hd] at HF1
            have HF2 : Aside0 (putSegs (l0.drop (kk + 1)) (acc ++ rdOf ByteArray.empty l0 (kk : Int)) = r) := ⟨HF1⟩
            clear HF1 HF hd
            generalize rdOf ByteArray.empty l0 (kk : Int) = seg at hx0 HF2 hz
            go_wp2_with (go_at_call 31; refine (Bu.write HB.out.1 HB.out.2.size _ (by omega)).mono ?_; rintro e w5 ⟨rfl, hu, hb5⟩; have HV := Aside0.mk (And.intro hu (HB.out.2.trans hb5)); clear hu hb5)
            go_roundg (l0.length - (kk + 1))
            case measure => have := HK.out; omega
            case rel => exact ⟨kk + 1, _, by have q_ := wrap64_small (kk : Int) (by omega) (by omega); first | go_num | rw [q_], ⟨by omega, by omega⟩, HV, HF2⟩
          · have hlt0 : ¬ (kk : Int) < (l0.length : Int) := by omega
            have HF1 := HF.out
            rw [List.drop_eq_nil_of_le (by omega)] at HF1
            obtain rfl : acc = r := HF1
            clear HF
            go_wp2_with (go_at_call 37; refine (Bu.string HB.out.1 HB.out.2.size).mono ?_; rintro e w5 ⟨rfl, hb5⟩; have HV := Aside0.mk (HB.out.2.trans hb5); clear hb5)
            go_ret
            exact ⟨rfl, HD.out.below.trans (HV.out.mono (HD.out.below.size))⟩
      · rw [if_neg h0] at hh
        have HH := Aside0.mk hh
        clear hh
        have b0 : (((acc.size : Int) % 8) != 0) = true := bne_iff_ne.mpr h0
        go_wp2_with (first | (go_at_call 41; refine (Bu.len HB.out.1).mono ?_; rintro e w6 ⟨rfl, rfl⟩) | (go_at_call 40; refine (hB4 _ _).mono ?_; rintro e w4 ⟨rfl, hb4⟩; have HU := Aside0.mk (And.intro (Bu.below HB.out.1 hb4) (below_step HB.out.2 hb4)); clear hb4) | (go_at_call 31; refine (Bu.write HU.out.1 HU.out.2.size _ (by rw [le4_size]; omega)).mono ?_; rintro e w5 ⟨rfl, hu, hb5⟩; have HV := Aside0.mk (And.intro hu (HU.out.2.trans hb5)); clear hu hb5 HU))
        rw [← HH.out] at HV
        clear HH HB
        go_loopg [7, 35] l0.length (fun gg _ s35 wr => ∃ (kk : Nat) (acc : ByteArray), s35 = .int .i64 kk ∧ Aside0 (kk ≤ l0.length ∧ l0.length - kk ≤ gg) ∧ Aside0 (Bu w1.heap.size acc wr ∧ Below w1.heap.size w1 wr) ∧ Aside0 (putSegs (l0.drop kk) acc = r))
        case atStart => exact ⟨0, _, rfl, ⟨by omega, by omega⟩, HV, ⟨by rw [List.drop_zero]; exact HF.out⟩⟩
        case round =>
          clear HV HK HF h0 b0
          obtain ⟨kk, acc, rfl, HK, HB, HF⟩ := hrel
          have hz := congrArg ByteArray.size HF.out
          rw [putSegs_size] at hz
          have hZ := HZ.out
          by_cases hlt : kk < l0.length
          · have hltz : (kk : Int) < (l0.length : Int) := by omega
            obtain ⟨ad, e0, hx0⟩ := Kd.at_string HR0.out (kk : Int) (by omega) hltz
            cases e0
            rw [Int.toNat_natCast] at hx0
            replace hx0 := (HD.out.below.cell (World.block_lt_of_cell? w _ hx0)).trans hx0
            replace hx0 := (HB.out.2.cell (World.block_lt_of_cell? w1 _ hx0)).trans hx0
            have hd : l0.drop kk = rdOf ByteArray.empty l0 (kk : Int) :: l0.drop (kk + 1) := by
              rw [List.drop_eq_getElem_cons hlt]; congr 1; exact (rs_get l0 kk hlt).symm
            rw [hd, sumSize_cons] at hz
            have HF1 := HF.out
            rw [hd] at HF1
            have HF2 : Aside0 (putSegs (l0.drop (kk + 1)) (acc ++ rdOf ByteArray.empty l0 (kk : Int)) = r) := ⟨HF1⟩
            clear HF1 HF hd
            generalize rdOf ByteArray.empty l0 (kk : Int) = seg at hx0 HF2 hz
            go_wp2_with (go_at_call 31; refine (Bu.write HB.out.1 HB.out.2.size _ (by omega)).mono ?_; rintro e w5 ⟨rfl, hu, hb5⟩; have HV := Aside0.mk (And.intro hu (HB.out.2.trans hb5)); clear hu hb5)
            go_roundg (l0.length - (kk + 1))
            case measure => have := HK.out; omega
            case rel => exact ⟨kk + 1, _, by have q_ := wrap64_small (kk : Int) (by omega) (by omega); first | go_num | rw [q_], ⟨by omega, by omega⟩, HV, HF2⟩
          · have hlt0 : ¬ (kk : Int) < (l0.length : Int) := by omega
            have HF1 := HF.out
            rw [List.drop_eq_nil_of_le (by omega)] at HF1
            obtain rfl : acc = r := HF1
            clear HF
            go_wp2_with (go_at_call 37; refine (Bu.string HB.out.1 HB.out.2.size).mono ?_; rintro e w5 ⟨rfl, hb5⟩; have HV := Aside0.mk (HB.out.2.trans hb5); clear hb5)
            go_ret
            exact ⟨rfl, HD.out.below.trans (HV.out.mono (HD.out.below.size))⟩
set_option maxHeartbeats 1000000 in
theorem framePut_no (A0 : Option Addr) (c0 : Nat) (l0 : List ByteArray) (w : World) (hr0 : Kd.C Kd.string w A0 l0.length l0) (hc0 : l0.length ≤ c0) (hl : l0.length ≤ 1048576) (hs : ∀ x ∈ l0, x.size ≤ 1048576) (hok : frameOkV l0 = false) :
    Calls Tryd.prog 14 #[.slice A0 l0.length c0] w fun e w' => e = .returned (.string ⟨#[]⟩) ∧ Below w.heap.size w w' := by
  have hF := fun W h => impl_FrameOk.calls (l0.length + 1) A0 c0 l0 false W h hc0 ((implFrameOk_f l0 hl hs (l0.length + 1) (by omega)).trans (by rw [hok]))
  have HR0 := Aside0.mk hr0
  clear hr0 hs hok
  go_enter Tryd.func14, Tryd.ntmps14
  go_wp2_with (go_at_call 18; refine (hF _ HR0.out).mono ?_; rintro e w1 ⟨rfl, hd⟩; have HD := Aside0.mk hd; clear hd)
  go_ret
  exact ⟨rfl, HD.out.below⟩
theorem impl_FramePut.calls (A0 : Option Addr) (c0 : Nat) (l0 : List ByteArray) (r : ByteArray) (w : World) (hr0 : Kd.C Kd.string w A0 l0.length l0) (hc0 : l0.length ≤ c0) (h : impl_FramePut.f l0 = some r) :
    Calls Tryd.prog 14 #[.slice A0 l0.length c0] w fun e w' => e = .returned (.string r) ∧ Below w.heap.size w w' := by
  unfold impl_FramePut.f at h
  by_cases hc : (l0.length : Int) ≤ 1048576 ∧ (∀ x ∈ l0, (x.size : Int) ≤ 1048576)
  · rw [if_pos hc] at h
    have h1 := Option.some.inj h
    have hs : ∀ x ∈ l0, x.size ≤ 1048576 := fun x hx => by have := hc.2 x hx; omega
    cases hok : frameOkV l0 with
    | true =>
      rw [hok, if_pos rfl] at h1
      exact framePut_yes A0 c0 l0 r w hr0 hc0 (by omega) hs hok (by have := (frameOk_facts hok).2.2; omega) h1
    | false =>
      rw [hok, if_neg (by decide)] at h1
      subst h1
      exact framePut_no A0 c0 l0 w hr0 hc0 (by omega) hs hok
  · rw [if_neg hc] at h
    cases h
end Go.Proofs.YteocobbddngllaaDoor
