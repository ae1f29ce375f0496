/- What is left without noughts at the end has just those words: the pure statement. -/
import Derived.Test.YtfeodfgjpjddhaaLemTrim
import Derived.Test.YtfeodfgjpjddhaaLemWord
import Derived.Test.YtfeodfgjpjddhaaPx36
import Derived.Test.YtfeodfgjpjddhaaPx37
namespace Go.Proofs.Ytfeodfgjpjddhaa.Pure
set_option linter.unusedVariables false
open Go.RowKit Go.Proofs.Ytfeodfgjpjddhaa Go.Proofs.Ytfeodfgjpjddhaa.P Go.Proofs.Ytfeodfgjpjddhaa.Lem Go.Proofs.YtfeodfgjpjddhaaW.PrintWords Go.Proofs.YtfeodfgjpjddhaaW.PrintLast
theorem drawTrim_f (k : Nat) (l : List Int) (hk : 2000 ≤ k) (hl : ∀ x ∈ l, (Lit.int .u8 x).wf = true) : ∃ s, spec_DrawTrim.f k l = some s ∧ s.size ≤ 1608 := by
  unfold spec_DrawTrim.f
  obtain ⟨b, hb, hB⟩ := open_f l hl
  rw [hb]
  simp only [Option.bind_some]
  obtain ⟨r, p', hr, hz, _, _⟩ := anyWords_f k b 0 hB (by omega) (by omega) (by omega)
  rw [hr]
  exact ⟨r, rfl, hz⟩
theorem getV_same {s X : ByteArray} (hs : IsW s) (hX : IsW X) (hb : ∀ i : Nat, bt X (i : Int) = bt s (i : Int)) (a : Nat) : getV X (a : Int) 8 = getV s (a : Int) 8 := by
  unfold getV
  by_cases h : IsS 8 ∧ 0 ≤ (a : Int) ∧ (a : Int) ≤ 1600 ∧ (a : Int) % 8 = 0
  · rw [if_pos ⟨hX, h⟩, if_pos ⟨hs, h⟩, acc_same X s a a _ _ (fun j _ => by have := hb (a + j); rw [Int.natCast_add] at this; exact this)]
  · rw [if_neg (fun c => h c.2), if_neg (fun c => h c.2)]
theorem trim_l0 (s X : ByteArray) (k0 : Nat) (hs : IsW s) (hX : IsW X) (hb : ∀ i : Nat, bt X (i : Int) = bt s (i : Int)) (hz : X.size ≤ s.size) (hpos : 8 ≤ X.size)
    (hend : endsZero X = false) : ∀ (d k i : Nat), i + 8 * d = s.size → d + 20 < k → laws_FnTrim.l0 k s X (X.size : Int) i = some true := by
  have hw : (s.size : Int) ≤ 1600 := hs.2
  have hm : (X.size : Int) % 8 = 0 := hX.1
  intro d
  induction d with
  | zero =>
    intro k i hi hk
    obtain ⟨k, rfl⟩ : ∃ m, k = m + 1 := ⟨k - 1, by omega⟩
    simp only [laws_FnTrim.l0]
    rw [if_neg (by omega), if_pos (by omega), if_pos (by omega)]
    have e : ((X.size : Int)).toNat = X.size := by omega
    have hpre : s.extract 0 X.size = X := by
      apply bt_ext
      · rw [ByteArray.size_extract]; omega
      · intro j hj
        rw [bt_extract _ _ _ _ (by omega), hb j]
        rw [ByteArray.size_extract] at hj
        rw [if_pos (by omega)]
        congr 2; omega
    rw [e, hpre, if_pos rfl, implTrim_f, Option.bind_some]
    have ht : trimV X = X := by unfold trimV; rw [if_pos hX, trimN_no _ hend]
    rw [ht, if_pos rfl, wrap64_id (by omega) (by omega), implGet_f _ _ _ _ (by omega), Option.bind_some]
    have hne : getV X ((X.size : Int) - 8) 8 ≠ 0 := by
      rw [getV_at hX (by unfold IsS; omega) (by omega) (by omega) (by omega)]
      intro h0
      have hr := acc_range X ((X.size : Int) - 8) 8
      have h1 : acc X ((X.size : Int) - 8) 8 0 < 18446744073709551616 := hr.2
      have h2 : acc X ((X.size : Int) - 8) 8 0 = 0 := by
        have h3 : wrap64 (acc X ((X.size : Int) - 8) 8 0) = 0 := h0
        unfold wrap64 at h3; omega
      have hall : endsZero X = true := (endsZero_iff X).2 ⟨hpos, fun j hj => by
        have := acc_digit X ((X.size : Int) - 8) 8 j hj
        rw [h2] at this
        have e2 : ((X.size - 8 + j : Nat) : Int) = (X.size : Int) - 8 + j := by omega
        rw [e2, ← this]
        rw [Int.zero_ediv]; rfl⟩
      rw [hend] at hall; cases hall
    simp [hne]
  | succ d ih =>
    intro k i hi hk
    obtain ⟨k, rfl⟩ : ∃ m, k = m + 1 := ⟨k - 1, by omega⟩
    simp only [laws_FnTrim.l0]
    rw [if_pos (by omega), implGet_f _ _ _ _ (by omega), Option.bind_some, implGet_f _ _ _ _ (by omega), Option.bind_some, if_pos (getV_same hs hX hb i), wrap64_id (by omega) (by omega)]
    exact ih k (i + 8) (by omega) (by omega)
theorem FnTrim : laws_FnTrim.Pure := by
  intro l hl1 hl2 hl
  obtain ⟨k, hk⟩ : ∃ k : Nat, 10000 ≤ k := ⟨10000, Nat.le_refl _⟩
  refine ⟨k + 1, ?_⟩
  unfold laws_FnTrim.f
  by_cases c1 : (l.length : Int) > 1048576
  · rw [if_pos c1]
  · rw [if_neg c1]
    obtain ⟨s, e0, hz⟩ := drawTrim_f (k + 1) l (by omega) hl
    rw [e0, Option.bind_some, implTrim_f, Option.bind_some, specTrim_f s _ (by omega), Option.bind_some, if_pos rfl]
    simp only [laws_FnTrim.j0]
    by_cases hx : (trimV s).size = 0
    · rw [hx, if_pos (by rfl), specTrim_f s _ (by omega), Option.bind_some]
      simp
    · have hne : (((trimV s).size : Int) == 0) = false := by simpa using hx
      rw [hne]
      simp only [Bool.false_eq_true, if_false]
      by_cases hw : IsW s
      · have hv : trimV s = trimN s.size s := by unfold trimV; rw [if_pos hw]
        rw [hv] at hx ⊢
        have hsz := trimN_size s.size s
        have h8 := hsz.2 (by have := hw.1; omega)
        have hX : IsW (trimN s.size s) := ⟨by omega, by have := hw.2; omega⟩
        exact trim_l0 s _ k hw hX (fun i => trimN_bt _ _ i) hsz.1 (by omega) (trimN_end _ _ (Nat.le_refl _)) (s.size / 8) k 0 (by have := hw.1; omega) (by have := hw.2; omega)
      · exfalso
        apply hx
        unfold trimV; rw [if_neg hw]; rfl
end Go.Proofs.Ytfeodfgjpjddhaa.Pure
