/- The program's FramePut: its two loops over a builder, and what the call comes to. -/
import Derived.Test.YteocobbddngllaaStubBuilder
import Derived.Test.YteocobbddngllaaLemFramePut
import Derived.Test.YteocobbddngllaaPx7
import Derived.Test.YteocobbddngllaaPx8
namespace Go.Proofs.Yteocobbddngllaa
set_option linter.unusedVariables false
set_option linter.unusedSimpArgs false
open Go.RowKit Go.Proofs.Yteocobbddngllaa.P Go.Proofs.Yteocobbddngllaa.Lem Go.Proofs.YteocobbddngllaaW.PrintWords Go.Proofs.YteocobbddngllaaW.PrintLast Go.Proofs.YteocobbddngllaaW.PrintMore
theorem wrap64_small (n : Int) (h0 : 0 ≤ n) (h1 : n < 10000000) : wrap64 (n + 1) = n + 1 := by unfold wrap64; omega
/-- A builder at the block b holds these bytes. -/
def Bu (B : Nat) (s : ByteArray) (w : World) : Prop := Lib.IsBuilderF 38 5 B B (Lib.byteCells s.data.toList) w
theorem bu_at {T e : TypeId} {B b : Nat} {p : Value} {bs : List Value} {w w' : World} (h : Lib.BuilderAtF T e B b p bs w) (hb : Below w.heap.size w w') : Lib.BuilderAtF T e B b p bs w' := by
  have hl := h.lt
  obtain ⟨h1, v, h2, h3, h4⟩ := h
  refine ⟨h1, v, (hb.block b hl).trans h2, h3.kept (row := none) ⟨hb.os, hb.tape, hb.output, hb.size, fun k hk _ => hb.block k hk⟩ (Classical.em _), h4⟩
theorem Bu.below {B : Nat} {s : ByteArray} {w w' : World} (h : Bu B s w) (hb : Below w.heap.size w w') : Bu B s w' := by
  rcases h with h | h
  · exact Or.inl (bu_at h hb)
  · exact Or.inr (bu_at h hb)
theorem Bu.write {B : Nat} {a : ByteArray} {w : World} (h : Bu B a w) (hB : B ≤ w.heap.size) (s : ByteArray) (hz : a.size + s.size ≤ 140737488355328) :
    Calls Try.prog 18 #[.pointer (some ⟨B, 0, none⟩), .string s] w fun e w' => e = .returned (.tuple #[.int .i64 s.size, .nilIface]) ∧ Bu B (a ++ s) w' ∧ Below B w w' := by
  refine (writeString B B _ s w h (by rw [Lib.byteCells_length, data_length]; exact hz) hB).mono ?_
  rintro e w' ⟨he, h1, h2, h3⟩
  refine ⟨he, Or.inr ?_, h2⟩
  have e2 : Lib.byteCells (a ++ s).data.toList = Lib.byteCells a.data.toList ++ Lib.strCells s := by
    rw [ByteArray.data_append, Array.toList_append, Lib.byteCells_append]; rfl
  rw [e2]; exact h1
theorem Bu.fresh_below {w w' : World} (hb : Below (w.alloc (.cells #[.pointer none, .slice none 0 0] 38)).heap.size (w.alloc (.cells #[.pointer none, .slice none 0 0] 38)) w') : Bu w.heap.size ⟨#[]⟩ w' ∧ Below w.heap.size w w' :=
  ⟨Bu.below (Lib.IsBuilderF.of (Lib.fresh_isBuilder 38 5 w)) hb, ((Below.refl _ w).alloc (Nat.le_refl _) _).trans (hb.mono (by simp))⟩
theorem Bu.len {B : Nat} {a : ByteArray} {w : World} (h : Bu B a w) :
    Calls Try.prog 20 #[.pointer (some ⟨B, 0, none⟩)] w fun e w' => e = .returned (.int .i64 a.size) ∧ w' = w := by
  have h1 := Try.Builder_Len_f B B _ w h
  rw [Lib.byteCells_length, data_length] at h1
  exact h1
theorem Bu.string {B : Nat} {a : ByteArray} {w : World} (h : Bu B a w) (hB : B ≤ w.heap.size) :
    Calls Try.prog 21 #[.pointer (some ⟨B, 0, none⟩)] w fun e w' => e = .returned (.string a) ∧ Below B w w' := by
  refine (Try.Builder_String_any_k B B _ w h hB).mono ?_
  rintro e w' ⟨he, _, h2, _⟩
  exact ⟨by rw [he], h2⟩
theorem empty_add (s : ByteArray) : (⟨#[]⟩ : ByteArray) ++ s = s := by
  apply ByteArray.ext; rw [ByteArray.data_append]; simp
def impl_FramePut.f (l : List ByteArray) : Option ByteArray :=
  if (l.length : Int) ≤ 1048576 ∧ (∀ x ∈ l, (x.size : Int) ≤ 1048576) then some (if frameOkV l = true then frameV l else ⟨#[]⟩) else none
set_option maxHeartbeats 4000000 in
set_option maxRecDepth 100000 in
theorem framePut_yes (A0 : Option Addr) (c0 : Nat) (l0 : List ByteArray) (r : ByteArray) (w : World) (hr0 : Kd.C Kd.string w A0 l0.length l0) (hc0 : l0.length ≤ c0) (hl : l0.length ≤ 1048576) (hs : ∀ x ∈ l0, x.size ≤ 1048576) (hok : frameOkV l0 = true) (hsum : sumSize l0 ≤ 1000000000) (hr : frameV l0 = r) :
    Calls Try.prog 9 #[.slice A0 l0.length c0] w fun e w' => e = .returned (.string r) ∧ Below w.heap.size w w' := by
  have hF := fun W h => impl_FrameOk.calls (l0.length + 1) A0 c0 l0 true W h hc0 ((implFrameOk_f l0 hl hs (l0.length + 1) (by omega)).trans (by rw [hok]))
  have hB4 := fun (n : Int) (W : World) => impl_bytesOf.calls 9 n 4 (le4 n) W (bytesOf_f n 4 (by omega) 9 (by omega))
  have HR0 := Aside0.mk hr0
  have HR := Aside0.mk hr
  have HS := Aside0.mk hs
  clear hr0 hr hs hok
  go_enter Try.func9, Try.ntmps9
  go_wp2_with (first | (go_at_call 17; refine (hF _ HR0.out).mono ?_; rintro e w1 ⟨rfl, hd⟩; have HD := Aside0.mk hd; clear hd) | (go_at_call 19; refine (hB4 _ _).mono ?_; rintro e w2 ⟨rfl, hb2⟩; have HU := Aside0.mk (Bu.fresh_below hb2); clear hb2) | (go_at_call 18; refine (Bu.write HU.out.1 HU.out.2.size _ (by rw [le4_size]; decide)).mono ?_; rintro e w3 ⟨rfl, hu, hb3⟩; have HV := Aside0.mk (And.intro hu (HU.out.2.trans hb3)); clear hu hb3 HU hF))
  go_loopg [5, 18] l0.length (fun gg _ s18 wr => ∃ (kk : Nat) (acc : ByteArray), s18 = .int .i64 kk ∧ Aside0 (kk ≤ l0.length ∧ l0.length - kk ≤ gg) ∧ Aside0 (Bu w1.heap.size acc wr ∧ Below w1.heap.size w1 wr) ∧ Aside0 (putSizes (l0.drop kk) acc = headV l0))
  case atStart => exact ⟨0, _, rfl, ⟨by omega, by omega⟩, HV, ⟨by rw [List.drop_zero, empty_add]; rfl⟩⟩
  case round =>
    clear HV
    obtain ⟨kk, acc, rfl, HK, HB, HF⟩ := hrel
    have hz := congrArg ByteArray.size HF.out
    unfold headV at hz
    rw [putSizes_size, putSizes_size, le4_size, List.length_drop] at hz
    by_cases hlt : kk < l0.length
    · have hltz : (kk : Int) < (l0.length : Int) := by omega
      obtain ⟨ad, e0, hx0⟩ := Kd.at_string HR0.out (kk : Int) (by omega) hltz
      cases e0
      rw [Int.toNat_natCast] at hx0
      replace hx0 := (HD.out.below.cell (World.block_lt_of_cell? w _ hx0)).trans hx0
      replace hx0 := (HB.out.2.cell (World.block_lt_of_cell? w1 _ hx0)).trans hx0
      have hd : l0.drop kk = rdOf ByteArray.empty l0 (kk : Int) :: l0.drop (kk + 1) := by
        rw [List.drop_eq_getElem_cons hlt]; congr 1; exact (rs_get l0 kk hlt).symm
      have hsz : (rdOf ByteArray.empty l0 (kk : Int)).size ≤ 1048576 := by
        have e : rdOf ByteArray.empty l0 (kk : Int) = l0[kk] := rs_get l0 kk hlt
        rw [e]; exact HS.out _ (List.getElem_mem _)
      have HF1 := HF.out
      rw [hd] at HF1
      have HF2 : Aside0 (putSizes (l0.drop (kk + 1)) (acc ++ le4 (((rdOf ByteArray.empty l0 (kk : Int)).size : Int) / 8)) = headV l0) := ⟨HF1⟩
      clear HF1 HF hd
      generalize rdOf ByteArray.empty l0 (kk : Int) = seg at hx0 HF2 hsz
      have hw : wrap64 ((seg.size : Int) / 8) = (seg.size : Int) / 8 := by unfold wrap64; omega
      go_wp2_with (first | (go_at_call 19; refine (hB4 _ _).mono ?_; rintro e w4 ⟨rfl, hb4⟩; have HU := Aside0.mk (And.intro (Bu.below HB.out.1 hb4) (below_step HB.out.2 hb4)); clear hb4) | (go_at_call 18; refine (Bu.write HU.out.1 HU.out.2.size _ (by rw [le4_size]; omega)).mono ?_; rintro e w5 ⟨rfl, hu, hb5⟩; have HV := Aside0.mk (And.intro hu (HU.out.2.trans hb5)); clear hu hb5 HU))
      go_roundg (l0.length - (kk + 1))
      case measure => have := HK.out; omega
      case rel =>
        first | rw [hw] at HV | skip
        exact ⟨kk + 1, _, by have q_ := wrap64_small (kk : Int) (by omega) (by omega); first | go_num | rw [q_], ⟨by omega, by omega⟩, HV, HF2⟩
    · have hlt0 : ¬ (kk : Int) < (l0.length : Int) := by omega
      have HF1 := HF.out
      rw [List.drop_eq_nil_of_le (by omega)] at HF1
      obtain rfl : acc = headV l0 := HF1
      clear HF
      have hq : (headV l0).size ≤ 5000000 := by omega
      have hrz := congrArg ByteArray.size HR.out
      unfold frameV at hrz
      rw [putSegs_size] at hrz
      have hpz : (pad8 (headV l0)).size ≤ 5000004 := by
        unfold pad8; split
        · omega
        · rw [ByteArray.size_append, le4_size]; omega
      have hF : putSegs l0 (pad8 (headV l0)) = r := HR.out
      clear hz HR
      have HF := Aside0.mk hF
      have HZ := Aside0.mk (show r.size ≤ 1005000004 by omega)
      clear hF hrz hpz
      obtain ⟨h8, hh⟩ : ∃ h8, h8 = pad8 (headV l0) := ⟨_, rfl⟩
      rw [← hh] at HF
      unfold pad8 at hh
      generalize headV l0 = acc at *
      by_cases h0 : (acc.size : Int) % 8 = 0
      · rw [if_pos h0] at hh
        subst hh
        have b0 : (((h8.size : Int) % 8) != 0) = false := bne_eq_false_iff_eq.mpr h0
        go_wp2_with (go_at_call 20; refine (Bu.len HB.out.1).mono ?_; rintro e w6 ⟨rfl, rfl⟩)
        go_loopg [7, 35] l0.length (fun gg _ s35 wr => ∃ (kk : Nat) (acc : ByteArray), s35 = .int .i64 kk ∧ Aside0 (kk ≤ l0.length ∧ l0.length - kk ≤ gg) ∧ Aside0 (Bu w1.heap.size acc wr ∧ Below w1.heap.size w1 wr) ∧ Aside0 (putSegs (l0.drop kk) acc = r))
        case atStart => exact ⟨0, _, rfl, ⟨by omega, by omega⟩, HB, ⟨by rw [List.drop_zero]; exact HF.out⟩⟩
        case round =>
          clear HB HK HF h0 b0
          obtain ⟨kk, acc, rfl, HK, HB, HF⟩ := hrel
          have hz := congrArg ByteArray.size HF.out
          rw [putSegs_size] at hz
          have hZ := HZ.out
          by_cases hlt : kk < l0.length
          · have hltz : (kk : Int) < (l0.length : Int) := by omega
            obtain ⟨ad, e0, hx0⟩ := Kd.at_string HR0.out (kk : Int) (by omega) hltz
            cases e0
            rw [Int.toNat_natCast] at hx0
            replace hx0 := (HD.out.below.cell (World.block_lt_of_cell? w _ hx0)).trans hx0
            replace hx0 := (HB.out.2.cell (World.block_lt_of_cell? w1 _ hx0)).trans hx0
            have hd : l0.drop kk = rdOf ByteArray.empty l0 (kk : Int) :: l0.drop (kk + 1) := by
              rw [List.drop_eq_getElem_cons hlt]; congr 1; exact (rs_get l0 kk hlt).symm
            rw [hd, sumSize_cons] at hz
            have HF1 := HF.out
            rw [hd] at HF1
            have HF2 : Aside0 (putSegs (l0.drop (kk + 1)) (acc ++ rdOf ByteArray.empty l0 (kk : Int)) = r) := ⟨HF1⟩
            clear HF1 HF hd
            generalize rdOf ByteArray.empty l0 (kk : Int) = seg at hx0 HF2 hz
            go_wp2_with (go_at_call 18; refine (Bu.write HB.out.1 HB.out.2.size _ (by omega)).mono ?_; rintro e w5 ⟨rfl, hu, hb5⟩; have HV := Aside0.mk (And.intro hu (HB.out.2.trans hb5)); clear hu hb5)
            go_roundg (l0.length - (kk + 1))
            case measure => have := HK.out; omega
            case rel => exact ⟨kk + 1, _, by have q_ := wrap64_small (kk : Int) (by omega) (by omega); first | go_num | rw [q_], ⟨by omega, by omega⟩, HV, HF2⟩
          · have hlt0 : ¬ (kk : Int) < (l0.length : Int) := by omega
            have HF1 := HF.out
            rw [List.drop_eq_nil_of_le (by omega)] at HF1
            obtain rfl : acc = r := HF1
            clear HF
            go_wp2_with (go_at_call 21; refine (Bu.string HB.out.1 HB.out.2.size).mono ?_; rintro e w5 ⟨rfl, hb5⟩; have HV := Aside0.mk (HB.out.2.trans hb5); clear hb5)
            go_ret
            exact ⟨rfl, HD.out.below.trans (HV.out.mono (HD.out.below.size))⟩
      · rw [if_neg h0] at hh
        have HH := Aside0.mk hh
        clear hh
        have b0 : (((acc.size : Int) % 8) != 0) = true := bne_iff_ne.mpr h0
        go_wp2_with (first | (go_at_call 20; refine (Bu.len HB.out.1).mono ?_; rintro e w6 ⟨rfl, rfl⟩) | (go_at_call 19; refine (hB4 _ _).mono ?_; rintro e w4 ⟨rfl, hb4⟩; have HU := Aside0.mk (And.intro (Bu.below HB.out.1 hb4) (below_step HB.out.2 hb4)); clear hb4) | (go_at_call 18; refine (Bu.write HU.out.1 HU.out.2.size _ (by rw [le4_size]; omega)).mono ?_; rintro e w5 ⟨rfl, hu, hb5⟩; have HV := Aside0.mk (And.intro hu (HU.out.2.trans hb5)); clear hu hb5 HU))
        rw [← HH.out] at HV
        clear HH HB
        go_loopg [7, 35] l0.length (fun gg _ s35 wr => ∃ (kk : Nat) (acc : ByteArray), s35 = .int .i64 kk ∧ Aside0 (kk ≤ l0.length ∧ l0.length - kk ≤ gg) ∧ Aside0 (Bu w1.heap.size acc wr ∧ Below w1.heap.size w1 wr) ∧ Aside0 (putSegs (l0.drop kk) acc = r))
        case atStart => exact ⟨0, _, rfl, ⟨by omega, by omega⟩, HV, ⟨by rw [List.drop_zero]; exact HF.out⟩⟩
        case round =>
          clear HV HK HF h0 b0
          obtain ⟨kk, acc, rfl, HK, HB, HF⟩ := hrel
          have hz := congrArg ByteArray.size HF.out
          rw [putSegs_size] at hz
          have hZ := HZ.out
          by_cases hlt : kk < l0.length
          · have hltz : (kk : Int) < (l0.length : Int) := by omega
            obtain ⟨ad, e0, hx0⟩ := Kd.at_string HR0.out (kk : Int) (by omega) hltz
            cases e0
            rw [Int.toNat_natCast] at hx0
            replace hx0 := (HD.out.below.cell (World.block_lt_of_cell? w _ hx0)).trans hx0
            replace hx0 := (HB.out.2.cell (World.block_lt_of_cell? w1 _ hx0)).trans hx0
            have hd : l0.drop kk = rdOf ByteArray.empty l0 (kk : Int) :: l0.drop (kk + 1) := by
              rw [List.drop_eq_getElem_cons hlt]; congr 1; exact (rs_get l0 kk hlt).symm
            rw [hd, sumSize_cons] at hz
            have HF1 := HF.out
            rw [hd] at HF1
            have HF2 : Aside0 (putSegs (l0.drop (kk + 1)) (acc ++ rdOf ByteArray.empty l0 (kk : Int)) = r) := ⟨HF1⟩
            clear HF1 HF hd
            generalize rdOf ByteArray.empty l0 (kk : Int) = seg at hx0 HF2 hz
            go_wp2_with (go_at_call 18; refine (Bu.write HB.out.1 HB.out.2.size _ (by omega)).mono ?_; rintro e w5 ⟨rfl, hu, hb5⟩; have HV := Aside0.mk (And.intro hu (HB.out.2.trans hb5)); clear hu hb5)
            go_roundg (l0.length - (kk + 1))
            case measure => have := HK.out; omega
            case rel => exact ⟨kk + 1, _, by have q_ := wrap64_small (kk : Int) (by omega) (by omega); first | go_num | rw [q_], ⟨by omega, by omega⟩, HV, HF2⟩
          · have hlt0 : ¬ (kk : Int) < (l0.length : Int) := by omega
            have HF1 := HF.out
            rw [List.drop_eq_nil_of_le (by omega)] at HF1
            obtain rfl : acc = r := HF1
            clear HF
            go_wp2_with (go_at_call 21; refine (Bu.string HB.out.1 HB.out.2.size).mono ?_; rintro e w5 ⟨rfl, hb5⟩; have HV := Aside0.mk (HB.out.2.trans hb5); clear hb5)
            go_ret
            exact ⟨rfl, HD.out.below.trans (HV.out.mono (HD.out.below.size))⟩
set_option maxHeartbeats 1000000 in
theorem framePut_no (A0 : Option Addr) (c0 : Nat) (l0 : List ByteArray) (w : World) (hr0 : Kd.C Kd.string w A0 l0.length l0) (hc0 : l0.length ≤ c0) (hl : l0.length ≤ 1048576) (hs : ∀ x ∈ l0, x.size ≤ 1048576) (hok : frameOkV l0 = false) :
    Calls Try.prog 9 #[.slice A0 l0.length c0] w fun e w' => e = .returned (.string ⟨#[]⟩) ∧ Below w.heap.size w w' := by
  have hF := fun W h => impl_FrameOk.calls (l0.length + 1) A0 c0 l0 false W h hc0 ((implFrameOk_f l0 hl hs (l0.length + 1) (by omega)).trans (by rw [hok]))
  have HR0 := Aside0.mk hr0
  clear hr0 hs hok
  go_enter Try.func9, Try.ntmps9
  go_wp2_with (go_at_call 17; refine (hF _ HR0.out).mono ?_; rintro e w1 ⟨rfl, hd⟩; have HD := Aside0.mk hd; clear hd)
  go_ret
  exact ⟨rfl, HD.out.below⟩
theorem impl_FramePut.calls (A0 : Option Addr) (c0 : Nat) (l0 : List ByteArray) (r : ByteArray) (w : World) (hr0 : Kd.C Kd.string w A0 l0.length l0) (hc0 : l0.length ≤ c0) (h : impl_FramePut.f l0 = some r) :
    Calls Try.prog 9 #[.slice A0 l0.length c0] w fun e w' => e = .returned (.string r) ∧ Below w.heap.size w w' := by
  unfold impl_FramePut.f at h
  by_cases hc : (l0.length : Int) ≤ 1048576 ∧ (∀ x ∈ l0, (x.size : Int) ≤ 1048576)
  · rw [if_pos hc] at h
    have h1 := Option.some.inj h
    have hs : ∀ x ∈ l0, x.size ≤ 1048576 := fun x hx => by have := hc.2 x hx; omega
    cases hok : frameOkV l0 with
    | true =>
      rw [hok, if_pos rfl] at h1
      exact framePut_yes A0 c0 l0 r w hr0 hc0 (by omega) hs hok (by have := (frameOk_facts hok).2.2; omega) h1
    | false =>
      rw [hok, if_neg (by decide)] at h1
      subst h1
      exact framePut_no A0 c0 l0 w hr0 hc0 (by omega) hs hok
  · rw [if_neg hc] at h
    cases h
end Go.Proofs.Yteocobbddngllaa
