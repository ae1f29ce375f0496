/- The drawn arguments of Get and Put: within bounds. -/
import Derived.Test.YtfeodfgjpjddhaaLemWord
import Derived.Test.YtfeodfgjpjddhaaLemOne
import Derived.Test.YtfeodfgjpjddhaaPx10
import Derived.Test.YtfeodfgjpjddhaaPx18
namespace Go.Proofs.Ytfeodfgjpjddhaa.Lem
set_option linter.unusedVariables false
open Go Go.RowKit Go.Proofs.Ytfeodfgjpjddhaa.P Go.Proofs.YtfeodfgjpjddhaaW.PrintWords Go.Proofs.YtfeodfgjpjddhaaW.PrintLast Go.Proofs.YtfeodfgjpjddhaaW.PrintMore
theorem drawGet_f (k : Nat) (l : List Int) (hk : 2000 ≤ k) (hl : ∀ x ∈ l, (Lit.int .u8 x).wf = true) :
    ∃ s a n, spec_DrawGet.f k l = some (s, a, n) ∧ s.size ≤ 1608 ∧ 1 ≤ n ∧ n ≤ 8 ∧ -1 ≤ a ∧ a ≤ 1608 := by
  unfold spec_DrawGet.f
  obtain ⟨b, hb, hB⟩ := open_f l hl
  rw [hb]
  simp only [Option.bind_some]
  obtain ⟨n, hn, e1⟩ := one_f k b 0 [1, 2, 4, 8, 8, 3] (by simp) (by simp) (by omega) hB (by omega) (by omega)
  rw [e1]
  simp only [Option.bind_some]
  have hn' : 1 ≤ n ∧ n ≤ 8 := by simp only [List.mem_cons, List.not_mem_nil, or_false] at hn; omega
  obtain ⟨s, p, e2, hz, hp1, hp2⟩ := anyWords_f k b (0 + 1) hB (by omega) (by omega) (by omega)
  rw [e2]
  simp only [Option.bind_some]
  obtain ⟨u, e3, u0, u1⟩ := pick_f k b p 6 (by omega) hB (by omega) (by omega)
  rw [e3]
  simp only [Option.bind_some]
  obtain ⟨v, e4, v0, v1⟩ := pick_f k b (p + 1) 48 (by omega) hB (by omega) (by omega)
  rw [e4]
  simp only [Option.bind_some]
  have hu := u1 (by omega)
  have hv := v1 (by omega)
  rw [wrap64_id (n := 2 * n) (by omega) (by omega), wrap64_id (n := 8 * u) (by omega) (by omega)]
  obtain ⟨a, ha, e5⟩ := one_f k b (p + 1 + 1) [0, n, 2 * n, 8 * u, v, (-1), 1608] (by simp) (by simp) (by omega) hB (by omega) (by omega)
  rw [e5]
  refine ⟨s, a, n, rfl, hz, hn'.1, hn'.2, ?_⟩
  simp only [List.mem_cons, List.not_mem_nil, or_false] at ha
  omega
theorem drawPut_f (k : Nat) (l : List Int) (hk : 2000 ≤ k) (hl : ∀ x ∈ l, (Lit.int .u8 x).wf = true) :
    ∃ s a n m, spec_DrawPut.f k l = some (s, a, n, m) ∧ s.size ≤ 1608 ∧ 1 ≤ n ∧ n ≤ 8 ∧ -1 ≤ a ∧ a ≤ 1608 ∧ -9223372036854775808 ≤ m ∧ m < 9223372036854775808 := by
  unfold spec_DrawPut.f
  obtain ⟨s, a, n, e0, hz, h1, h2, h3, h4⟩ := drawGet_f k l hk hl
  rw [e0]
  simp only [Option.bind_some]
  obtain ⟨b, hb, hB⟩ := open_f l hl
  rw [hb]
  simp only [Option.bind_some]
  obtain ⟨m, hm, e1⟩ := one_f k b 0 [0, 1, 255, 256, 65535, (-1), 4294967295, 1099511627776] (by simp) (by simp) (by omega) hB (by omega) (by omega)
  rw [e1]
  refine ⟨s, a, n, m, rfl, hz, h1, h2, h3, h4, ?_⟩
  simp only [List.mem_cons, List.not_mem_nil, or_false] at hm
  omega
end Go.Proofs.Ytfeodfgjpjddhaa.Lem
