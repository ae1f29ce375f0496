/- Each byte is two figures: the pure statement. -/
import Derived.Test.YtdlalhphephgeaaLemHex
import Derived.Test.YtdlalhphephgeaaLemWord
import Derived.Test.YtdlalhphephgeaaPx37
import Derived.Test.YtdlalhphephgeaaPx38
namespace Go.Proofs.Ytdlalhphephgeaa.Pure
set_option linter.unusedVariables false
open Go.RowKit Go.Proofs.Ytdlalhphephgeaa.P Go.Proofs.Ytdlalhphephgeaa.Lem Go.Proofs.YtdlalhphephgeaaW.PrintWords Go.Proofs.YtdlalhphephgeaaW.PrintLast
theorem FnHex : laws_FnHex.Pure := by
  intro l more hl1 hl2 hl hm1 hm2 hm
  obtain ⟨k, hk⟩ : ∃ k : Nat, 10000 ≤ k := ⟨10000, Nat.le_refl _⟩
  refine ⟨k + 1, ?_⟩
  unfold laws_FnHex.f
  by_cases c1 : (l.length : Int) > 1048576
  · rw [if_pos c1]; simp only [laws_FnHex.j0]; rw [if_pos trivial]
  · rw [if_neg c1]
    by_cases c2 : (more.length : Int) > 1048576
    · simp only [laws_FnHex.j0]; rw [if_pos (by simpa using c2)]
    · simp only [laws_FnHex.j0]
      rw [if_neg (by simpa using c2)]
      have hd : ∃ s, spec_DrawHex.f k l = some s ∧ s.size ≤ 1608 := by
        unfold spec_DrawHex.f
        obtain ⟨b, hb, hB⟩ := open_f l hl
        rw [hb]
        simp only [Option.bind_some]
        obtain ⟨r, p', hr, hz, _, _⟩ := anyWords_f k b 0 hB (by omega) (by omega) (by omega)
        rw [hr]
        exact ⟨r, rfl, hz⟩
      obtain ⟨s, hs, hz⟩ := hd
      rw [hs, Option.bind_some]
      rw [implHex_f s (by omega), wrap64_id (n := (s.size : Int) + 1) (by omega) (by omega), wrap64_id (n := 2 * (s.size : Int)) (by omega) (by omega)]
      rw [Option.bind_some, if_neg (by omega), specHex_f s (by omega) _ (by omega), Option.bind_some]
      have hmod : 0 ≤ (more.length : Int) % ((s.size : Int) + 1) ∧ (more.length : Int) % ((s.size : Int) + 1) ≤ s.size := by
        have h1 := Int.emod_nonneg (more.length : Int) (b := (s.size : Int) + 1) (by omega)
        have h2 := Int.emod_lt_of_pos (more.length : Int) (b := (s.size : Int) + 1) (by omega)
        omega
      generalize (more.length : Int) % ((s.size : Int) + 1) = j at *
      have hv : strOfNums (hexL s s.size) = hexV s := rfl
      have hc := hexV_cut s j.toNat (by omega)
      have e1 : (s.extract 0 j.toNat).size ≤ 1000000000 := by rw [ByteArray.size_extract]; omega
      have e2 : (s.extract j.toNat s.size).size ≤ 1000000000 := by rw [ByteArray.size_extract]; omega
      rw [hv, if_pos rfl, if_pos (by rw [hexV_size]; omega), if_pos hmod.1, if_pos hmod.2, implHex_f _ e1, implHex_f _ e2, Option.bind_some, Option.bind_some]
      have hv1 : strOfNums (hexL (s.extract 0 j.toNat) (s.extract 0 j.toNat).size) = hexV (s.extract 0 j.toNat) := rfl
      have hv2 : strOfNums (hexL (s.extract j.toNat s.size) (s.extract j.toNat s.size).size) = hexV (s.extract j.toNat s.size) := rfl
      rw [hv1, hv2, hc, if_pos (by rw [hexV_size, hexV_size]; omega)]
      simp
end Go.Proofs.Ytdlalhphephgeaa.Pure
