/- Words of noughts are packed to two bytes: the pure statement. -/
import Derived.Test.YteocobbddngllaaDoorLemC
import Derived.Test.YteocobbddngllaaDoorPx35
namespace Go.Proofs.YteocobbddngllaaDoor.Pure
set_option linter.unusedVariables false
open Go Go.RowKit Go.Proofs.YteocobbddngllaaDoor Go.Proofs.YteocobbddngllaaDoor.P Go.Proofs.YteocobbddngllaaDoor.Lem Go.Proofs.YteocobbddngllaaDoorW.PrintWords Go.Proofs.YteocobbddngllaaDoorW.PrintLast
theorem strOf_zeros (n : Nat) : strOfNums (List.replicate n 0) = B (zeros n) := by
  have : (List.replicate n (0 : Int)) = Lem.nums (zeros n) := by unfold Lem.nums zeros; rw [List.map_replicate]; rfl
  rw [this, B_strOf]
theorem FnPackZero : laws_FnPackZero.Pure := by
  intro l0 _ _ hw
  obtain ⟨k, hk⟩ : ∃ k : Nat, 100000000 ≤ k := ⟨_, Nat.le_refl _⟩
  refine ⟨k + 1, ?_⟩
  unfold laws_FnPackZero.f
  by_cases h : (l0.length : Int) > 1048576
  · rw [if_pos h]
  · rw [if_neg h]
    obtain ⟨s, e, hs⟩ := drawPack_f (k + 1) l0 (by omega) hw
    rw [e, Option.bind_some, implPack_f, Option.bind_some, specPackW_f s (k + 1) (by omega), Option.bind_some, if_pos rfl]
    have out : laws_FnPackZero.j0 (k + 1) s (packW s) true = some true := by
      simp only [laws_FnPackZero.j0]
      rw [if_pos trivial, specPackW_f s k (by omega), Option.bind_some]; simp
    by_cases h8 : (s.size : Int) % 8 = 0
    · rw [if_pos h8]
      by_cases hb : (s.size : Int) > 1600
      · rw [if_pos hb]; exact out
      · rw [if_neg hb]
        by_cases h0 : (s.size : Int) = 0
        · rw [beq_iff_eq.2 h0]; exact out
        · rw [beq_eq_false_iff_ne.2 h0]
          obtain ⟨n, hn⟩ : ∃ n, s.size = 8 * (n + 1) := ⟨s.size / 8 - 1, by omega⟩
          have hz : IsW (B (zeros (8 * (n + 1)))) := by unfold IsW; rw [B_size, zeros_length]; omega
          have hp : packW (B (zeros (8 * (n + 1)))) = B [0, UInt8.ofNat n] := by
            unfold packW
            rw [if_pos hz, packV_B, pk_zeros n (by omega)]
          have hu := unp_back _ hz
          rw [hp] at hu
          have hb0 : bt (B [0, UInt8.ofNat n]) 0 = 0 := B_bt [0, UInt8.ofNat n] 0
          have hb1 : bt (B [0, UInt8.ofNat n]) 1 = (n : Int) := by
            have : bt (B [0, UInt8.ofNat n]) ((1 : Nat) : Int) = ((UInt8.ofNat n).toNat : Int) := B_bt [0, UInt8.ofNat n] 1
            rw [UInt8.toNat_ofNat'] at this
            have e1 : ((1 : Nat) : Int) = 1 := rfl
            rw [e1] at this
            rw [this]; omega
          have hsz : (B [0, UInt8.ofNat n]).size = 2 := B_size _
          simp only [laws_FnPackZero.j0]
          rw [if_neg (by decide), if_pos (by omega), if_pos (by omega), Option.bind_some, Int.toNat_natCast, hn, strOf_zeros, implPack_f, Option.bind_some, hp, implUnpack_f _ k (by rw [hsz]; omega), Option.bind_some, hu, hsz, hb0, hb1]
          rw [if_pos (by decide), if_pos (by decide), if_pos rfl, if_pos (by decide), wrap64_id (n := (n : Int)) (by omega) (by omega)]
          have e8 : ((8 * (n + 1) : Nat) : Int) / 8 = (n : Int) + 1 := by omega
          rw [e8, wrap64_id (n := (n : Int) + 1) (by omega) (by omega), wrap64_id (n := (n : Int) + 1 - 1) (by omega) (by omega), if_pos (by omega), if_pos rfl]
          simp
    · rw [if_neg h8]; exact out
end Go.Proofs.YteocobbddngllaaDoor.Pure
