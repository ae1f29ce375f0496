/- Words packed one behind the other are unpacked one behind the other: the pure statement. -/
import Derived.Test.YteocobbddngllaaDoorLemC
import Derived.Test.YteocobbddngllaaDoorPx34
namespace Go.Proofs.YteocobbddngllaaDoor.Pure
set_option linter.unusedVariables false
open Go Go.RowKit Go.Proofs.YteocobbddngllaaDoor Go.Proofs.YteocobbddngllaaDoor.P Go.Proofs.YteocobbddngllaaDoor.Lem Go.Proofs.YteocobbddngllaaDoorW.PrintWords Go.Proofs.YteocobbddngllaaDoorW.PrintLast
theorem FnPackJoin : laws_FnPackJoin.Pure := by
  intro l0 l1 _ _ hw _ _ hw1
  obtain ⟨k, hk⟩ : ∃ k : Nat, 1000000000 ≤ k := ⟨_, Nat.le_refl _⟩
  refine ⟨k + 1 + 1, ?_⟩
  unfold laws_FnPackJoin.f
  have hj : ∀ x, laws_FnPackJoin.j0 (k + 1 + 1) l0 l1 x = some true := by
    intro x
    simp only [laws_FnPackJoin.j0]
    cases x with
    | true => rfl
    | false =>
      rw [if_neg (by decide)]
      obtain ⟨a, ea, ha⟩ := drawPack_f (k + 1) l0 (by omega) hw
      obtain ⟨b, eb, hb⟩ := drawPack_f (k + 1) l1 (by omega) hw1
      rw [ea, Option.bind_some, eb, Option.bind_some, implPack_f, Option.bind_some, specPackW_f a (k + 1) (by omega), Option.bind_some, if_pos rfl]
      have out : laws_FnPackJoin.j1 (k + 1) a b (packW a) true = some true := by
        simp only [laws_FnPackJoin.j1]
        rw [if_pos trivial, specPackW_f a k (by omega), Option.bind_some]; simp
      by_cases h8 : (a.size : Int) % 8 = 0
      · rw [if_pos h8]
        by_cases h9 : (b.size : Int) % 8 = 0
        · rw [if_pos h9, wrap64_id (by omega) (by omega)]
          by_cases hl : (a.size : Int) + (b.size : Int) > 1600
          · rw [decide_eq_true hl]; exact out
          · rw [decide_eq_false hl]
            clear out
            have hA : IsW a := ⟨h8, by omega⟩
            have hB : IsW b := ⟨h9, by omega⟩
            obtain ⟨a1, a2⟩ := isW_len hA
            obtain ⟨b1, b2⟩ := isW_len hB
            have hAB : IsW (a ++ b) := by unfold IsW; rw [ByteArray.size_append]; omega
            have eAB : (a ++ b).data.toList = a.data.toList ++ b.data.toList := by rw [ByteArray.data_append, Array.toList_append]
            have pa : packW a = B (pk a.data.toList) := by unfold packW; rw [if_pos hA, packV_pk]
            have pb : packW b = B (pk b.data.toList) := by unfold packW; rw [if_pos hB, packV_pk]
            have pab : packW (a ++ b) = B (pk (a.data.toList ++ b.data.toList)) := by unfold packW; rw [if_pos hAB, packV_pk, eAB]
            have la := packW_size a
            have lb := packW_size b
            have hlen : (a.data.toList ++ b.data.toList).length ≤ 1600 := by rw [List.length_append, data_length, data_length]; omega
            have hu : unpV (packW a ++ packW b) = (a ++ b, true) := by
              rw [pa, pb, B_append, unpV_unp, unp_pk _ _ (Nat.le_refl _) a1, unp_pk_id _ b1]
              simp only [Option.map_some, finU, List.nil_append]
              rw [if_pos hlen, ← eAB, B_of]
            have hjn := pk_join b.data.toList b1 a.data.toList.length a.data.toList (Nat.le_refl _) a1 hlen
            have hjs : (packW (a ++ b)).size ≤ (packW a).size + (packW b).size := by rw [pa, pb, pab, B_size, B_size, B_size]; exact hjn
            have lab := packW_size (a ++ b)
            clear hjn pa pb pab eAB hlen
            simp only [laws_FnPackJoin.j1]
            rw [if_neg (by decide), implPack_f, Option.bind_some, if_pos (by omega), implUnpack_f _ k (by rw [ByteArray.size_append]; omega), Option.bind_some, hu, if_pos rfl, if_pos (by omega), if_pos rfl, implPack_f, Option.bind_some, Option.bind_some, wrap64_id (by omega) (by omega)]
            rw [decide_eq_true (by omega)]
        · rw [if_neg h9]; exact out
      · rw [if_neg h8]; exact out
  split
  · exact hj _
  · exact hj _
end Go.Proofs.YteocobbddngllaaDoor.Pure
