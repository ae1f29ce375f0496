/- Plain facts, merged out of several texts: StubBuilder, StubByte, StubFollow, StubMax. -/
import Derived.Test.YteocobbddngllaaDoorShelf
import Derived.Shelf.Strings.BuilderK
import Derived.Test.YteocobbddngllaaDoorV2
import Derived.Test.YteocobbddngllaaDoorLemA
import Derived.Shelf.Abstract
section
namespace Go.Proofs.YteocobbddngllaaDoor
open Go.RowKit Go.Proofs.YteocobbddngllaaDoorW.PrintWords Go.Proofs.YteocobbddngllaaDoorW.PrintLast Go.Proofs.YteocobbddngllaaDoorW.PrintMore
theorem writeString (B b : Nat) (bs : List Value) (s : ByteArray) (w : World) (h : Lib.IsBuilderF 39 5 B b bs w) (hlen : bs.length + s.size ≤ 140737488355328) (hBw : B ≤ w.heap.size) :
    Calls Tryd.prog 31 #[.pointer (some ⟨b, 0, none⟩), .string s] w fun e w' => e = .returned (.tuple #[.int .i64 s.size, .nilIface]) ∧
      (Lib.BuilderAtF 39 5 B b (.pointer (some ⟨b, 0, none⟩)) (bs ++ Lib.strCells s) w' ∧ Below B w w' ∧ Lib.OthersKept 5 (some b) w w') :=
  Any.Builder_WriteString_k (ρ := Tryd.lays105_ren) { Tryd.lays105 with } Tryd.Builder_Extra_105 B b bs s w h hlen hBw
theorem wrap64_small (n : Int) (h0 : 0 ≤ n) (h1 : n < 10000000) : wrap64 (n + 1) = n + 1 := by unfold wrap64; omega
/-- A builder at the block b holds these bytes. -/
def Bu (B : Nat) (s : ByteArray) (w : World) : Prop := Lib.IsBuilderF 39 5 B B (Lib.byteCells s.data.toList) w
theorem bu_at {T e : TypeId} {B b : Nat} {p : Value} {bs : List Value} {w w' : World} (h : Lib.BuilderAtF T e B b p bs w) (hb : Below w.heap.size w w') : Lib.BuilderAtF T e B b p bs w' := by
  have hl := h.lt
  obtain ⟨h1, v, h2, h3, h4⟩ := h
  refine ⟨h1, v, (hb.block b hl).trans h2, h3.kept (row := none) ⟨hb.os, hb.tape, hb.output, hb.size, fun k hk _ => hb.block k hk⟩ (Classical.em _), h4⟩
theorem Bu.below {B : Nat} {s : ByteArray} {w w' : World} (h : Bu B s w) (hb : Below w.heap.size w w') : Bu B s w' := by
  rcases h with h | h
  · exact Or.inl (bu_at h hb)
  · exact Or.inr (bu_at h hb)
theorem Bu.write {B : Nat} {a : ByteArray} {w : World} (h : Bu B a w) (hB : B ≤ w.heap.size) (s : ByteArray) (hz : a.size + s.size ≤ 140737488355328) :
    Calls Tryd.prog 31 #[.pointer (some ⟨B, 0, none⟩), .string s] w fun e w' => e = .returned (.tuple #[.int .i64 s.size, .nilIface]) ∧ Bu B (a ++ s) w' ∧ Below B w w' := by
  refine (writeString B B _ s w h (by rw [Lib.byteCells_length, data_length]; exact hz) hB).mono ?_
  rintro e w' ⟨he, h1, h2, h3⟩
  refine ⟨he, Or.inr ?_, h2⟩
  have e2 : Lib.byteCells (a ++ s).data.toList = Lib.byteCells a.data.toList ++ Lib.strCells s := by
    rw [ByteArray.data_append, Array.toList_append, Lib.byteCells_append]; rfl
  rw [e2]; exact h1
theorem Bu.fresh_below {w w' : World} (hb : Below (w.alloc (.cells #[.pointer none, .slice none 0 0] 39)).heap.size (w.alloc (.cells #[.pointer none, .slice none 0 0] 39)) w') : Bu w.heap.size ⟨#[]⟩ w' ∧ Below w.heap.size w w' :=
  ⟨Bu.below (Lib.IsBuilderF.of (Lib.fresh_isBuilder 39 5 w)) hb, ((Below.refl _ w).alloc (Nat.le_refl _) _).trans (hb.mono (by simp))⟩
theorem Bu.len {B : Nat} {a : ByteArray} {w : World} (h : Bu B a w) :
    Calls Tryd.prog 41 #[.pointer (some ⟨B, 0, none⟩)] w fun e w' => e = .returned (.int .i64 a.size) ∧ w' = w := by
  have h1 := Tryd.Builder_Len_f B B _ w h
  rw [Lib.byteCells_length, data_length] at h1
  exact h1
theorem Bu.string {B : Nat} {a : ByteArray} {w : World} (h : Bu B a w) (hB : B ≤ w.heap.size) :
    Calls Tryd.prog 37 #[.pointer (some ⟨B, 0, none⟩)] w fun e w' => e = .returned (.string a) ∧ Below B w w' := by
  refine (Tryd.Builder_String_any_k B B _ w h hB).mono ?_
  rintro e w' ⟨he, _, h2, _⟩
  exact ⟨by rw [he], h2⟩
theorem empty_add (s : ByteArray) : (⟨#[]⟩ : ByteArray) ++ s = s := by
  apply ByteArray.ext; rw [ByteArray.data_append]; simp
end Go.Proofs.YteocobbddngllaaDoor
end
section
namespace Go.Proofs.YteocobbddngllaaDoor
open Go.RowKit Go.Proofs.YteocobbddngllaaDoorW.PrintWords Go.Proofs.YteocobbddngllaaDoorW.PrintLast Go.Proofs.YteocobbddngllaaDoorW.PrintMore
def renWB : Go.Shelf.Ren := ⟨fun | 167 => 30 | n => Tryd.lays155_ren.f n, Tryd.lays155_ren.t, Tryd.lays155_ren.g⟩
theorem laysWB : Lays.n167 Tryd.prog renWB := { Tryd.lays155 with
  f167 := Tryd.func30.trans (congrArg some (by kernel_rfl))
  f240 := Tryd.func61.trans (congrArg some (by kernel_rfl))
  f276 := Tryd.lays155.f276 }
theorem extraWB : Builder.Extra Tryd.prog renWB := { Tryd.Builder_Extra_155 with }
theorem writeByte (B b : Nat) (bs : List Value) (c : Int) (w : World) (h : Lib.IsBuilderF 39 5 B b bs w) (hlen : bs.length + 1 ≤ 140737488355328) (hBw : B ≤ w.heap.size) :
    Calls Tryd.prog 30 #[.pointer (some ⟨b, 0, none⟩), .int .u8 c] w fun e w' => e = .returned .nilIface ∧
      (Lib.BuilderAtF 39 5 B b (.pointer (some ⟨b, 0, none⟩)) (bs ++ [.int .u8 c]) w' ∧ Below B w w' ∧ Lib.OthersKept 5 (some b) w w') :=
  Any.Builder_WriteByte_k (ρ := renWB) laysWB extraWB B b bs c w h hlen hBw
theorem Bu.byte {B : Nat} {a : ByteArray} {w : World} (h : Bu B a w) (hB : B ≤ w.heap.size) (c : UInt8) (hz : a.size + 1 ≤ 140737488355328) :
    Calls Tryd.prog 30 #[.pointer (some ⟨B, 0, none⟩), .int .u8 (c.toNat : Int)] w fun e w' => e = .returned .nilIface ∧ Bu B (a ++ ⟨#[c]⟩) w' ∧ Below B w w' := by
  refine (writeByte B B _ (c.toNat : Int) w h (by rw [Lib.byteCells_length, data_length]; exact hz) hB).mono ?_
  rintro e w' ⟨he, h1, h2, h3⟩
  refine ⟨he, Or.inr ?_, h2⟩
  have e2 : Lib.byteCells (a ++ ⟨#[c]⟩).data.toList = Lib.byteCells a.data.toList ++ [.int .u8 (c.toNat : Int)] := by
    rw [ByteArray.data_append, Array.toList_append, Lib.byteCells_append]; rfl
  rw [e2]; exact h1
end Go.Proofs.YteocobbddngllaaDoor
end
section
namespace Go.Proofs.YteocobbddngllaaDoor
set_option linter.unusedVariables false
set_option linter.unusedSimpArgs false
open Go.RowKit Go.Proofs.YteocobbddngllaaDoor.Lem Go.Proofs.YteocobbddngllaaDoorW.PrintWords Go.Proofs.YteocobbddngllaaDoorW.PrintLast Go.Proofs.YteocobbddngllaaDoorW.PrintMore
theorem run_cut (s : ByteArray) (l h : Int) (h0 : 0 ≤ l) (h1 : l ≤ h) (h2 : h ≤ s.size) (W : World) :
    (Instr.slice 9 (.string s) (some (.int .i64 l)) (some (.int .i64 h)) none).run Tryd.prog W = .ok (.string (s.extract l.toNat h.toNat)) W := by
  simp [Instr.slice, run_underlying Tryd.underlying9, Instr.sliceBounds, run_sliceBound, sliced, *, (by omega : 0 ≤ h)]
  rw [run_sliceBound W .i64 l h.toNat .sliceB h0 (by omega)]
  rfl
theorem noughts_calls (s : ByteArray) (w : World) :
    Calls Tryd.prog 35 #[.string s] w fun e w' => e = .returned (.int .i64 (s.data.toList.count 0 : Nat)) ∧ w' = w := by
  have hc := fun W => Tryd.strings_Count_one s 0 W
  go_enter Tryd.func35, Tryd.ntmps35
  go_wp2_with (go_at_call 63; refine (hc _).mono ?_; rintro e w' ⟨rfl, rfl⟩)
  go_ret
  exact ⟨rfl, rfl⟩
theorem retB {a b : Bool} (h : a = b) : Ending.returned (.bool a) = Ending.returned (.bool b) := by rw [h]
theorem pack1_calls (s : ByteArray) (w : World) :
    Calls Tryd.prog 34 #[.string s] w fun e w' => e = .returned (.bool (zeroW s.data.toList)) ∧ w' = w := by
  have hc := fun W => noughts_calls s W
  have hz : zeroW s.data.toList = (((s.data.toList.count 0 : Nat) : Int) == 8) := by
    unfold zeroW
    by_cases h : s.data.toList.count 0 = 8
    · rw [decide_eq_true h]; symm; rw [beq_iff_eq]; omega
    · rw [decide_eq_false h]; symm; rw [beq_eq_false_iff_ne]; omega
  rw [hz]
  clear hz
  generalize s.data.toList.count 0 = n at *
  go_enter Tryd.func34, Tryd.ntmps34
  go_wp2_with (go_at_call 35; refine (hc _).mono ?_; rintro e w' ⟨rfl, rfl⟩)
  go_ret
  exact ⟨rfl, rfl⟩
theorem pack2_calls (s : ByteArray) (w : World) :
    Calls Tryd.prog 36 #[.string s] w fun e w' => e = .returned (.bool (fewW s.data.toList)) ∧ w' = w := by
  have hc := fun W => noughts_calls s W
  have hz : fewW s.data.toList = decide (((s.data.toList.count 0 : Nat) : Int) ≤ 1) := by
    unfold fewW
    rw [decide_eq_decide]; omega
  rw [hz]
  clear hz
  generalize s.data.toList.count 0 = n at *
  go_enter Tryd.func36, Tryd.ntmps36
  go_wp2_with (go_at_call 35; refine (hc _).mono ?_; rintro e w' ⟨rfl, rfl⟩)
  go_ret
  exact ⟨rfl, rfl⟩
set_option maxHeartbeats 2000000 in
set_option maxRecDepth 100000 in
theorem following_calls (g : Nat) (p : List UInt8 → Bool) (hg : ∀ (s : ByteArray) (W : World), Calls Tryd.prog g #[.string s] W fun e w' => e = .returned (.bool (p s.data.toList)) ∧ w' = W)
    (eg : ∀ args w, (callFunc g args).run Tryd.prog w = .ok (.enter g args) w) (t : List UInt8) (ht : t.length ≤ 100000) (w : World) :
    Calls Tryd.prog 33 #[.string (B t), .func (.func g) #[] #[]] w fun e w' => e = .returned (.int .i64 (folL p 255 t : Nat)) ∧ w' = w := by
  have hz := B_size t
  generalize hR0 : folL p 255 t = R
  have hR := Aside0.mk hR0
  clear hR0
  go_enter Tryd.func33, Tryd.ntmps33
  go_wp2
  go_loopg [5] 256 (fun gg s5 wr => ∃ kk : Nat, s5 = .int .i64 kk ∧ Aside0 (kk ≤ 255 ∧ 255 - kk ≤ gg) ∧ Aside0 (wr = w) ∧ Aside0 (kk + folL p (255 - kk) (t.drop (8 * kk)) = R))
  case atStart => exact ⟨0, rfl, ⟨by omega, by omega⟩, ⟨rfl⟩, ⟨by rw [← hR.out]; simp⟩⟩
  case round =>
    clear hR
    obtain ⟨kk, rfl, HK, ⟨rfl⟩, HF⟩ := hrel
    have hF := HF.out
    by_cases h1 : kk < 255
    · obtain ⟨m, hm⟩ : ∃ m, 255 - kk = m + 1 := ⟨255 - kk - 1, by omega⟩
      rw [hm] at hF
      simp only [folL, List.length_drop] at hF
      by_cases h2 : 8 ≤ t.length - 8 * kk
      · rw [if_pos h2] at hF
        have c1 : (kk : Int) < 255 := by omega
        have c2 : ((kk : Int) + 1) * 8 ≤ ((B t).size : Int) := by rw [hz]; omega
        have he : ((B t).extract ((kk : Int) * 8).toNat (((kk : Int) + 1) * 8).toNat).data.toList = (t.drop (8 * kk)).take 8 := by
          rw [B_extract, B_data, List.drop_take]; congr 1
          · omega
          · congr 1; omega
        have hg1 := fun W => hg ((B t).extract ((kk : Int) * 8).toNat (((kk : Int) + 1) * 8).toNat) W
        rw [he] at hg1
        have hsl := fun W => run_cut (B t) ((kk : Int) * 8) (((kk : Int) + 1) * 8) (by omega) (by omega) c2 W
        clear he hg HF
        generalize p ((t.drop (8 * kk)).take 8) = b at hg1 hF
        cases b with
        | true =>
          rw [if_pos rfl, List.drop_drop] at hF
          have hR2 : kk + 1 + folL p (255 - (kk + 1)) (t.drop (8 * (kk + 1))) = R := by
            have e5 : 255 - (kk + 1) = m := by omega
            have h8 : 8 * (kk + 1) = 8 * kk + 8 := by omega
            rw [e5, h8]; omega
          have HR2 := Aside0.mk hR2
          clear hF hR2
          go_wp2_with (go_at_fn g; refine (hg1 _).mono ?_; rintro e w' ⟨rfl, rfl⟩)
          go_roundg (255 - (kk + 1))
          case measure => have := HK.out; omega
          case rel => exact ⟨kk + 1, by have q_ := wrap64_small (kk : Int) (by omega) (by omega); first | go_num | rw [q_], ⟨by omega, by omega⟩, ⟨rfl⟩, HR2⟩
        | false =>
          rw [if_neg (by decide)] at hF
          go_wp2_with (go_at_fn g; refine (hg1 _).mono ?_; rintro e w' ⟨rfl, rfl⟩)
          go_ret
          exact ⟨by rw [← hF]; rfl, rfl⟩
      · rw [if_neg h2] at hF
        have c1 : (kk : Int) < 255 := by omega
        have c2 : ¬ ((kk : Int) + 1) * 8 ≤ (t.length : Int) := by omega
        clear HF
        go_wp2
        go_ret
        exact ⟨by rw [← hF]; rfl, rfl⟩
    · have h0 : 255 - kk = 0 := by omega
      rw [h0] at hF
      simp only [folL] at hF
      have c1 : ¬ (kk : Int) < 255 := by omega
      clear HF
      go_wp2
      go_ret
      exact ⟨by rw [← hF]; rfl, rfl⟩
end Go.Proofs.YteocobbddngllaaDoor
end
section
namespace Go.Proofs.YteocobbddngllaaDoor
open Go.RowKit Go.Proofs.YteocobbddngllaaDoorW.PrintWords Go.Proofs.YteocobbddngllaaDoorW.PrintLast Go.Proofs.YteocobbddngllaaDoorW.PrintMore
structure SBw (w : World) : Prop where mk :: (out : ∃ m, w.cell? ⟨0, 0, none⟩ = some (.int .i64 m))
theorem SBw.mv {w w1 : World} (h : SBw w) (hb : Below w.heap.size w w1) : SBw w1 := by
  obtain ⟨m, hm⟩ := h.out
  exact ⟨m, pw_cell_below hb hm⟩
end Go.Proofs.YteocobbddngllaaDoor
end
