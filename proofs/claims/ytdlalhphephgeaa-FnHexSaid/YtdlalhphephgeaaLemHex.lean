/- What the two Hex answer: two figures for each byte. -/
import Derived.Test.YtdlalhphephgeaaLemBits
import Derived.Test.YtdlalhphephgeaaStubHex
import Derived.Lib.HexFns
import Derived.Test.YtdlalhphephgeaaPx5
namespace Go.Proofs.Ytdlalhphephgeaa.Lem
set_option linter.unusedVariables false
open Go Go.RowKit Go.Proofs.Ytdlalhphephgeaa Go.Proofs.Ytdlalhphephgeaa.P Go.Proofs.YtdlalhphephgeaaW.PrintWords Go.Proofs.YtdlalhphephgeaaW.PrintLast Go.Proofs.YtdlalhphephgeaaW.PrintMore
def hexTab : ByteArray := ⟨#[48, 49, 50, 51, 52, 53, 54, 55, 56, 57, 97, 98, 99, 100, 101, 102]⟩
def hexDig (i : Int) : Int := bt hexTab i
def hexL (s : ByteArray) (i : Nat) : List Int := (List.range i).flatMap fun (j : Nat) => [hexDig (bt s (j : Int) / 16), hexDig (bt s (j : Int) % 16)]
theorem hexL_succ (s : ByteArray) (i : Nat) : hexL s (i + 1) = hexL s i ++ [hexDig (bt s (i : Int) / 16), hexDig (bt s (i : Int) % 16)] := by
  unfold hexL; rw [List.range_succ, List.flatMap_append]; simp
theorem hexL_length (s : ByteArray) (i : Nat) : (hexL s i).length = 2 * i := by
  induction i with
  | zero => rfl
  | succ i ih => rw [hexL_succ, List.length_append, ih]; simp; omega
theorem hex_l0 (s : ByteArray) (hs : s.size ≤ 1000000000) : ∀ (d k i : Nat), i + d = s.size → d < k → spec_Hex.l0 k s hexTab (hexL s i) i = some (strOfNums (hexL s s.size)) := by
  intro d
  induction d with
  | zero =>
    intro k i hi hk
    obtain ⟨k, rfl⟩ : ∃ m, k = m + 1 := ⟨k - 1, by omega⟩
    simp only [spec_Hex.l0]
    obtain rfl : i = s.size := by omega
    rw [if_neg (by omega)]
  | succ d ih =>
    intro k i hi hk
    obtain ⟨k, rfl⟩ : ∃ m, k = m + 1 := ⟨k - 1, by omega⟩
    simp only [spec_Hex.l0]
    have hb := bt_range s (i : Int)
    rw [if_pos (by omega), if_pos (by omega), Int.tdiv_eq_ediv_of_nonneg hb.1, Int.tmod_eq_emod_of_nonneg hb.1]
    have e : bt s (i : Int) / 16 % 256 = bt s (i : Int) / 16 := by omega
    have hz : (hexTab.size : Int) = 16 := rfl
    rw [e, hz, if_pos (by omega), if_pos (by omega), if_pos (by omega), if_pos (by omega)]
    simp only [Option.bind_some]
    rw [if_pos (by rw [hexL_length]; simp; omega), wrap64_id (by omega) (by omega)]
    have := ih k (i + 1) (by omega) (by omega)
    rw [hexL_succ] at this
    exact this
theorem specHex_f (s : ByteArray) (hs : s.size ≤ 1000000000) (k : Nat) (hk : s.size < k) : spec_Hex.f k s = some (strOfNums (hexL s s.size)) := by
  unfold spec_Hex.f
  exact hex_l0 s hs s.size k 0 (by omega) hk
theorem hexDig_eq (c : Int) (h0 : 0 ≤ c) (h1 : c < 16) : UInt8.ofNat (hexDig c).toNat = Lib.Hx.digit c.toNat := by
  obtain ⟨n, rfl⟩ := Int.eq_ofNat_of_zero_le h0
  have hn : n < 16 := by omega
  clear h0 h1
  revert n
  decide
theorem hex_enc (s : ByteArray) : ∀ i, i ≤ s.size → (hexL s i).map (fun n => UInt8.ofNat n.toNat) = Lib.Hx.encode (s.data.toList.take i) := by
  intro i
  induction i with
  | zero => intro _; rfl
  | succ i ih =>
    intro hi
    have hl : i < s.data.toList.length := by rw [data_length]; omega
    rw [hexL_succ, List.map_append, ih (by omega), List.take_succ_eq_append_getElem hl]
    unfold Lib.Hx.encode
    rw [List.flatMap_append]
    congr 1
    have hb := bt_range s (i : Int)
    have e : bt s (i : Int) = ((s.data.toList[i]'hl).toNat : Int) := by
      rw [← bt_at s (i : Int) (by omega)]; rfl
    simp only [List.map_cons, List.map_nil, List.flatMap_cons, List.flatMap_nil, List.append_nil]
    rw [hexDig_eq _ (by omega) (by omega), hexDig_eq _ (by omega) (by omega), e]
    congr 1
theorem hexS (s : ByteArray) : strOfNums (hexL s s.size) = ⟨(Lib.Hx.encode s.data.toList).toArray⟩ := by
  unfold strOfNums
  rw [hex_enc s s.size (Nat.le_refl _), List.take_of_length_le (by rw [data_length]; exact Nat.le_refl _)]
theorem implHex_f (s : ByteArray) (hs : s.size ≤ 1000000000) : impl_Hex.f s = some (strOfNums (hexL s s.size)) := by
  unfold impl_Hex.f
  rw [if_pos (by omega), hexS]
/-- Hex, as a function. -/
def hexV (s : ByteArray) : ByteArray := strOfNums (hexL s s.size)
theorem hexV_size (s : ByteArray) : (hexV s).size = 2 * s.size := by unfold hexV; rw [strOfNums_size, hexL_length]
theorem hexV_cut (s : ByteArray) (j : Nat) (hj : j ≤ s.size) : hexV (s.extract 0 j) ++ hexV (s.extract j s.size) = hexV s := by
  unfold hexV
  rw [hexS, hexS, hexS]
  apply ByteArray.ext
  simp only [ByteArray.data_append, List.append_toArray]
  congr 1
  unfold Lib.Hx.encode
  rw [← List.flatMap_append]
  congr 1
  simp only [ByteArray.data_extract, Array.toList_extract, List.extract_eq_take_drop, List.drop_zero, Nat.sub_zero]
  rw [List.take_of_length_le (l := s.data.toList.drop j) (by rw [List.length_drop, data_length]; exact Nat.le_refl _), List.take_append_drop]
end Go.Proofs.Ytdlalhphephgeaa.Lem
