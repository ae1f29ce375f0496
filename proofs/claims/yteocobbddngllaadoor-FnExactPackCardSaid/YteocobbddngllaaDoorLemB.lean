/- Texts as lists of bytes. -/
import Derived.Test.YteocobbddngllaaDoorLemBits
import Derived.Test.YteocobbddngllaaDoorV2
namespace Go.Proofs.YteocobbddngllaaDoor.Lem
set_option linter.unusedVariables false
open Go Go.RowKit Go.Proofs.YteocobbddngllaaDoorW.PrintWords Go.Proofs.YteocobbddngllaaDoorW.PrintLast Go.Proofs.YteocobbddngllaaDoorW.PrintMore
theorem bt_data (s : ByteArray) (i : Nat) : bt s (i : Int) = (((s.data.toList[i]?).getD 0).toNat : Int) := by
  unfold bt
  have e : (i : Int).toNat = i := by omega
  rcases Nat.lt_or_ge i s.size with h | h
  · have hl : i < s.data.toList.length := by rw [data_length]; exact h
    rw [dif_pos (by rw [e]; exact h), List.getElem?_eq_getElem hl]
    simp only [e]; rfl
  · have hl : s.data.toList.length ≤ i := by rw [data_length]; exact h
    rw [dif_neg (by rw [e]; omega), List.getElem?_eq_none hl]; rfl
/-- A list of bytes, as a text. -/
def B (t : List UInt8) : ByteArray := ⟨t.toArray⟩
theorem B_data (t : List UInt8) : (B t).data.toList = t := by simp [B]
theorem B_of (s : ByteArray) : B s.data.toList = s := by unfold B; rw [Array.toArray_toList]
theorem B_size (t : List UInt8) : (B t).size = t.length := by rw [← data_length, B_data]
theorem B_inj {a b : List UInt8} (h : B a = B b) : a = b := by rw [← B_data a, h, B_data]
theorem B_append (a b : List UInt8) : B a ++ B b = B (a ++ b) := by
  apply ByteArray.ext
  rw [ByteArray.data_append]; simp [B]
theorem B_extract (t : List UInt8) (a b : Nat) : (B t).extract a b = B ((t.take b).drop a) := by
  apply ByteArray.ext
  rw [ByteArray.data_extract]
  apply Array.ext'
  rw [Array.toList_extract, List.extract_eq_take_drop, List.drop_take]
  simp [B]
theorem B_bt (t : List UInt8) (i : Nat) : bt (B t) (i : Int) = ((t.getD i 0).toNat : Int) := by
  rw [bt_data, B_data, List.getD_eq_getElem?_getD]
def nums (t : List UInt8) : List Int := t.map fun b => (b.toNat : Int)
theorem nums_length (t : List UInt8) : (nums t).length = t.length := by simp [nums]
theorem nums_append (a b : List UInt8) : nums (a ++ b) = nums a ++ nums b := by simp [nums]
theorem B_nums (t : List UInt8) : bytesOf (B t) = nums t := by unfold bytesOf; rw [B_data]; rfl
theorem B_strOf (t : List UInt8) : strOfNums (nums t) = B t := by
  unfold strOfNums nums B
  rw [List.map_map]
  congr 2
  conv => rhs; rw [← List.map_id t]
  apply List.map_congr_left
  intro b _
  simp
theorem B_toList (t : List UInt8) : (B t).toList = t := by rw [ByteArray.toList_eq, B_data]
end Go.Proofs.YteocobbddngllaaDoor.Lem
