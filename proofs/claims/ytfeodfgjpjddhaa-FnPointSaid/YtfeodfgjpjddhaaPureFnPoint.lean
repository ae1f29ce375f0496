/- A pointer is read back from its word: the plain facts, the draws, the pure statement. -/
import Derived.Test.YtfeodfgjpjddhaaLemPointPut
import Derived.Test.YtfeodfgjpjddhaaLemPointGet
import Derived.Test.YtfeodfgjpjddhaaLemPut2
import Derived.Test.YtfeodfgjpjddhaaLemOne
import Derived.Test.YtfeodfgjpjddhaaPx10
import Derived.Test.YtfeodfgjpjddhaaPx11
import Derived.Test.YtfeodfgjpjddhaaPx12
import Derived.Test.YtfeodfgjpjddhaaPx13
import Derived.Test.YtfeodfgjpjddhaaPx6
namespace Go.Proofs.Ytfeodfgjpjddhaa.Lem
set_option linter.unusedVariables false
set_option linter.unusedSimpArgs false
open Go Go.RowKit Go.Proofs.Ytfeodfgjpjddhaa.P Go.Proofs.YtfeodfgjpjddhaaW.PrintWords Go.Proofs.YtfeodfgjpjddhaaW.PrintLast Go.Proofs.YtfeodfgjpjddhaaW.PrintMore
theorem bt_put (m : Int) (i : Nat) (hi : i < 8) : bt (strOfNums (leB m 8)) (i : Int) = m / 256 ^ i % 256 := by
  rw [bt_strOf _ _ (leB_range m 8), leB_get m 8 i hi]
theorem half0 (s : ByteArray) : half s 0 = bt s ((0 : Nat) : Int) + bt s ((1 : Nat) : Int) * 256 + bt s ((2 : Nat) : Int) * 65536 + bt s ((3 : Nat) : Int) * 16777216 := by
  unfold half
  simp only [acc, Int.zero_mul, Int.zero_add]
  generalize bt s ((0 : Nat) : Int) = x0
  generalize bt s ((1 : Nat) : Int) = x1
  generalize bt s ((2 : Nat) : Int) = x2
  generalize bt s ((3 : Nat) : Int) = x3
  omega
theorem half4 (s : ByteArray) : half s 4 = bt s ((4 : Nat) : Int) + bt s ((5 : Nat) : Int) * 256 + bt s ((6 : Nat) : Int) * 65536 + bt s ((7 : Nat) : Int) * 16777216 := by
  unfold half
  simp only [acc, Int.zero_mul, Int.zero_add]
  have e0 : (4 : Int) + ((0 : Nat) : Int) = ((4 : Nat) : Int) := rfl
  have e1 : (4 : Int) + ((1 : Nat) : Int) = ((5 : Nat) : Int) := rfl
  have e2 : (4 : Int) + ((2 : Nat) : Int) = ((6 : Nat) : Int) := rfl
  have e3 : (4 : Int) + ((3 : Nat) : Int) = ((7 : Nat) : Int) := rfl
  rw [e0, e1, e2, e3]
  generalize bt s ((4 : Nat) : Int) = x0
  generalize bt s ((5 : Nat) : Int) = x1
  generalize bt s ((6 : Nat) : Int) = x2
  generalize bt s ((7 : Nat) : Int) = x3
  omega
theorem half_put0 (m : Int) : half (strOfNums (leB m 8)) 0 = m % 4294967296 := by
  rw [half0, bt_put m 0 (by decide), bt_put m 1 (by decide), bt_put m 2 (by decide), bt_put m 3 (by decide)]
  have e0 : (256 : Int) ^ 0 = 1 := by decide
  have e1 : (256 : Int) ^ 1 = 256 := by decide
  have e2 : (256 : Int) ^ 2 = 65536 := by decide
  have e3 : (256 : Int) ^ 3 = 16777216 := by decide
  rw [e0, e1, e2, e3]
  omega
theorem half_put4 (m : Int) : half (strOfNums (leB m 8)) 4 = m / 4294967296 % 4294967296 := by
  rw [half4, bt_put m 4 (by decide), bt_put m 5 (by decide), bt_put m 6 (by decide), bt_put m 7 (by decide)]
  have e0 : (256 : Int) ^ 4 = 4294967296 := by decide
  have e1 : (256 : Int) ^ 5 = 1099511627776 := by decide
  have e2 : (256 : Int) ^ 6 = 281474976710656 := by decide
  have e3 : (256 : Int) ^ 7 = 72057594037927936 := by decide
  rw [e0, e1, e2, e3]
  omega
theorem strOf_size (xs : List Int) : (strOfNums xs).size = xs.length := by
  show (strOfNums xs).data.size = _
  rw [← Array.length_toList, strOfNums_data, List.length_map]
theorem put_half (s : ByteArray) (hz : s.size = 8) (m : Int) (hm : m = half s 0 + half s 4 * 4294967296) : strOfNums (leB m 8) = s := by
  apply bt_ext
  · rw [strOf_size, leB_length, hz]
  · intro i hi
    rw [strOf_size, leB_length] at hi
    rw [bt_put m i hi, hm, half0, half4]
    have r0 := bt_range s ((0 : Nat) : Int)
    have r1 := bt_range s ((1 : Nat) : Int)
    have r2 := bt_range s ((2 : Nat) : Int)
    have r3 := bt_range s ((3 : Nat) : Int)
    have r4 := bt_range s ((4 : Nat) : Int)
    have r5 := bt_range s ((5 : Nat) : Int)
    have r6 := bt_range s ((6 : Nat) : Int)
    have r7 := bt_range s ((7 : Nat) : Int)
    have f0 : (256 : Int) ^ 0 = 1 := by decide
    have f1 : (256 : Int) ^ 1 = 256 := by decide
    have f2 : (256 : Int) ^ 2 = 65536 := by decide
    have f3 : (256 : Int) ^ 3 = 16777216 := by decide
    have f4 : (256 : Int) ^ 4 = 4294967296 := by decide
    have f5 : (256 : Int) ^ 5 = 1099511627776 := by decide
    have f6 : (256 : Int) ^ 6 = 281474976710656 := by decide
    have f7 : (256 : Int) ^ 7 = 72057594037927936 := by decide
    rcases (by omega : i = 0 ∨ i = 1 ∨ i = 2 ∨ i = 3 ∨ i = 4 ∨ i = 5 ∨ i = 6 ∨ i = 7) with rfl | rfl | rfl | rfl | rfl | rfl | rfl | rfl
    · rw [f0]; omega
    · rw [f1]; omega
    · rw [f2]; omega
    · rw [f3]; omega
    · rw [f4]; omega
    · rw [f5]; omega
    · rw [f6]; omega
    · rw [f7]; omega
theorem b2i_eq (h h' : Bool) (e : b2i h = b2i h') : h = h' := by
  cases h <;> cases h' <;> simp [b2i] at e ⊢
theorem b2i_range (h : Bool) : 0 ≤ b2i h ∧ b2i h ≤ 1 := by cases h <;> simp [b2i]
theorem b2i_ne (x : Int) (h : Bool) (e : x = b2i h) : (x * 4 != 0) = h := by
  cases h <;> simp [b2i] at e <;> subst e <;> rfl
theorem sgn_b30 (b : Int) (h0 : -536870912 ≤ b) (h1 : b ≤ 536870911) : sgn30 (b30 b) = b := by
  unfold sgn30 b30
  split <;> omega
theorem b30_sgn (x : Int) (h0 : 0 ≤ x) (h1 : x < 1073741824) : b30 (sgn30 x) = x := by
  unfold sgn30 b30
  split <;> omega
theorem sgn_range (x : Int) (h0 : 0 ≤ x) (h1 : x < 1073741824) : -536870912 ≤ sgn30 x ∧ sgn30 x ≤ 536870911 := by
  unfold sgn30
  split <;> omega
theorem pt_get_put (a b c d e f g : Int) (h : Bool) (hok : POk a b c d e f g h) : pointGetV (putPV a b c d e f g h) = (a, b, c, d, e, f, g, h) := by
  unfold putPV
  rw [if_pos hok]
  unfold pointGetV
  rw [if_pos (by rw [strOf_size, leB_length]; rfl), half_put0, half_put4]
  rcases hok with ⟨rfl, rfl, rfl, rfl, rfl, rfl, rfl, hh⟩ | ⟨rfl, h1, h2, h3, h4, h5, h6, rfl, rfl, rfl, hh, hne⟩ | ⟨rfl, h1, h2, rfl, rfl, h3, h4, h5, h6, rfl, hh⟩ | ⟨rfl, h1, h2, rfl, rfl, rfl, rfl, h3, h4⟩
  · obtain rfl : h = false := b2i_eq _ _ hh
    rfl
  · obtain rfl : h = false := b2i_eq _ _ hh
    have hn : numOf 1 b c d 0 0 0 false = b30 b * 4 + c * 4294967296 + d * 281474976710656 := rfl
    have hb : 0 ≤ b30 b ∧ b30 b < 1073741824 := by unfold b30; omega
    have hz : b30 b = 0 → b = 0 := by unfold b30; omega
    have hs := sgn_b30 b h1 h2
    rw [hn]
    generalize b30 b = q at *
    have e0 : (q * 4 + c * 4294967296 + d * 281474976710656) % 4294967296 = q * 4 := by omega
    have e1 : (q * 4 + c * 4294967296 + d * 281474976710656) / 4294967296 % 4294967296 = c + d * 65536 := by omega
    rw [e0, e1]
    unfold pointV
    rw [if_neg (by intro hc; omega), if_pos (by omega), show q * 4 / 4 = q by omega, hs, show (c + d * 65536) % 65536 = c by omega, show (c + d * 65536) / 65536 = d by omega]
  · obtain rfl : h = false := b2i_eq _ _ hh
    have hn : numOf 2 b 0 0 e f 0 false = 1 + b30 b * 4 + e * 4294967296 + f * 34359738368 := rfl
    have hb : 0 ≤ b30 b ∧ b30 b < 1073741824 := by unfold b30; omega
    have hs := sgn_b30 b h1 h2
    rw [hn]
    generalize b30 b = q at *
    have e0 : (1 + q * 4 + e * 4294967296 + f * 34359738368) % 4294967296 = 1 + q * 4 := by omega
    have e1 : (1 + q * 4 + e * 4294967296 + f * 34359738368) / 4294967296 % 4294967296 = e + f * 8 := by omega
    rw [e0, e1]
    unfold pointV
    rw [if_neg (by intro hc; omega), if_neg (by omega), if_pos (by omega), show (1 + q * 4) / 4 = q by omega, hs, show (e + f * 8) % 8 = e by omega, show (e + f * 8) / 8 = f by omega]
  · have hn : numOf 3 b 0 0 0 0 g h = 2 + b30 b * 8 + g * 4294967296 + b2i h * 4 := rfl
    have hb : b30 b = b := by unfold b30; omega
    have hr := b2i_range h
    rw [hn, hb]
    have e0 : (2 + b * 8 + g * 4294967296 + b2i h * 4) % 4294967296 = 2 + b * 8 + b2i h * 4 := by omega
    have e1 : (2 + b * 8 + g * 4294967296 + b2i h * 4) / 4294967296 % 4294967296 = g := by omega
    rw [e0, e1]
    unfold pointV
    rw [if_neg (by intro hc; omega), if_neg (by omega), if_neg (by omega), if_pos (by omega), show (2 + b * 8 + b2i h * 4) / 8 = b by omega]
    rw [b2i_ne ((2 + b * 8 + b2i h * 4) / 4 % 2) h (by omega)]
theorem pt_put_get (s : ByteArray) (a b c d e f g : Int) (h : Bool) (hg : pointGetV s = (a, b, c, d, e, f, g, h)) (ha : a ≠ 4) : POk a b c d e f g h ∧ putPV a b c d e f g h = s := by
  unfold pointGetV at hg
  by_cases hz : (s.size : Int) = 8
  · rw [if_pos hz] at hg
    have hz' : s.size = 8 := by omega
    have r0 := half_range s 0
    have r4 := half_range s 4
    have key : numOf a b c d e f g h = half s 0 + half s 4 * 4294967296 ∧ POk a b c d e f g h := by
      unfold pointV at hg
      generalize half s 0 = lo at *
      generalize half s 4 = hi at *
      have hq := b30_sgn (lo / 4) (by omega) (by omega)
      have hs := sgn_range (lo / 4) (by omega) (by omega)
      have hz4 : sgn30 (lo / 4) = 0 → lo / 4 = 0 := fun hh => by rw [hh] at hq; rw [← hq]; rfl
      by_cases c0 : lo = 0 ∧ hi = 0
      · rw [if_pos c0] at hg
        simp only [Prod.mk.injEq] at hg
        obtain ⟨rfl, rfl, rfl, rfl, rfl, rfl, rfl, rfl⟩ := hg
        exact ⟨by rw [c0.1, c0.2]; rfl, .inl ⟨rfl, rfl, rfl, rfl, rfl, rfl, rfl, rfl⟩⟩
      · rw [if_neg c0] at hg
        by_cases c1 : lo % 4 = 0
        · rw [if_pos c1] at hg
          simp only [Prod.mk.injEq] at hg
          obtain ⟨rfl, rfl, rfl, rfl, rfl, rfl, rfl, rfl⟩ := hg
          refine ⟨?_, .inr (.inl ⟨rfl, hs.1, hs.2, by omega, by omega, by omega, by omega, rfl, rfl, rfl, rfl, ?_⟩)⟩
          · show b30 (sgn30 (lo / 4)) * 4 + hi % 65536 * 4294967296 + hi / 65536 * 281474976710656 = _
            rw [hq]; omega
          · by_cases hx : sgn30 (lo / 4) = 0
            · have := hz4 hx; omega
            · exact .inl hx
        · rw [if_neg c1] at hg
          by_cases c2 : lo % 4 = 1
          · rw [if_pos c2] at hg
            simp only [Prod.mk.injEq] at hg
            obtain ⟨rfl, rfl, rfl, rfl, rfl, rfl, rfl, rfl⟩ := hg
            refine ⟨?_, .inr (.inr (.inl ⟨rfl, hs.1, hs.2, rfl, rfl, by omega, by omega, by omega, by omega, rfl, rfl⟩))⟩
            show 1 + b30 (sgn30 (lo / 4)) * 4 + hi % 8 * 4294967296 + hi / 8 * 34359738368 = _
            rw [hq]; omega
          · rw [if_neg c2] at hg
            by_cases c3 : lo % 4 = 2
            · rw [if_pos c3] at hg
              simp only [Prod.mk.injEq] at hg
              obtain ⟨rfl, rfl, rfl, rfl, rfl, rfl, rfl, rfl⟩ := hg
              refine ⟨?_, .inr (.inr (.inr ⟨rfl, by omega, by omega, rfl, rfl, rfl, rfl, by omega, by omega⟩))⟩
              show 2 + b30 (lo / 8) * 8 + hi * 4294967296 + b2i (lo / 4 % 2 * 4 != 0) * 4 = _
              have hb : b30 (lo / 8) = lo / 8 := by unfold b30; omega
              rw [hb]
              rcases (by omega : lo / 4 % 2 = 0 ∨ lo / 4 % 2 = 1) with hx | hx
              · rw [hx, show b2i ((0 : Int) * 4 != 0) = 0 from rfl]; omega
              · rw [hx, show b2i ((1 : Int) * 4 != 0) = 1 from rfl]; omega
            · rw [if_neg c3] at hg
              simp only [Prod.mk.injEq] at hg
              exact absurd hg.1.symm ha
    refine ⟨key.2, ?_⟩
    unfold putPV
    rw [if_pos key.2]
    exact put_half s hz' _ key.1
  · rw [if_neg hz] at hg
    simp only [Prod.mk.injEq] at hg
    exact absurd hg.1.symm ha
end Go.Proofs.Ytfeodfgjpjddhaa.Lem
namespace Go.Proofs.Ytfeodfgjpjddhaa.Lem
set_option linter.unusedVariables false
set_option linter.unusedSimpArgs false
open Go Go.RowKit Go.Proofs.Ytfeodfgjpjddhaa.P Go.Proofs.YtfeodfgjpjddhaaW.PrintWords Go.Proofs.YtfeodfgjpjddhaaW.PrintLast Go.Proofs.YtfeodfgjpjddhaaW.PrintMore
theorem l13Point_f (k : Nat) (l : List Int) (p : Int) (hk : 1 ≤ k) (hb : Bytes l) (hp : 0 ≤ p) (hP : p ≤ 999000) :
    ∃ a b c d e f g h p', spec_l13Point.f k l p = some (a, b, c, d, e, f, g, h, p') ∧ POk a b c d e f g h ∧ p ≤ p' ∧ p' ≤ p + 5 := by
  unfold spec_l13Point.f
  obtain ⟨off, ho, e0⟩ := one_f k l p ([0, 1, (-1), 5, 536870911, (-536870912)] : List Int) (by simp) (by simp) hk hb (by omega) (by omega)
  rw [e0, Option.bind_some]
  obtain ⟨v, e1, hv0, hv1⟩ := pick_f k l (p + 1) 4 hk hb (by omega) (by omega)
  simp only [e1, Option.bind_some]
  have hoff : -536870912 ≤ off ∧ off ≤ 536870911 := by simp at ho; omega
  clear ho e0
  by_cases c0 : v = 0
  · rw [if_pos c0]
    exact ⟨_, _, _, _, _, _, _, _, _, rfl, .inl ⟨rfl, rfl, rfl, rfl, rfl, rfl, rfl, rfl⟩, by omega, by omega⟩
  rw [if_neg c0]
  by_cases c1 : v = 1
  · rw [if_pos c1]
    obtain ⟨x, hx, e2⟩ := one_f k l (p + 1 + 1) ([0, 1, 65535] : List Int) (by simp) (by simp) hk hb (by omega) (by omega)
    simp only [e2, Option.bind_some]
    obtain ⟨y, hy, e3⟩ := one_f k l (p + 1 + 1 + 1) ([1, 2, 65535] : List Int) (by simp) (by simp) hk hb (by omega) (by omega)
    simp only [e3, Option.bind_some]
    have hx' : x = 0 ∨ x = 1 ∨ x = 65535 := by simpa using hx
    have hy' : y = 1 ∨ y = 2 ∨ y = 65535 := by simpa using hy
    exact ⟨_, _, _, _, _, _, _, _, _, rfl, .inr (.inl ⟨rfl, hoff.1, hoff.2, by omega, by omega, by omega, by omega, rfl, rfl, rfl, rfl, by omega⟩), by omega, by omega⟩
  rw [if_neg c1]
  by_cases c2 : v = 2
  · rw [if_pos c2]
    obtain ⟨x, e2, hx0, hx1⟩ := pick_f k l (p + 1 + 1) 8 hk hb (by omega) (by omega)
    simp only [e2, Option.bind_some]
    obtain ⟨y, hy, e3⟩ := one_f k l (p + 1 + 1 + 1) ([0, 1, 9, 536870911] : List Int) (by simp) (by simp) hk hb (by omega) (by omega)
    simp only [e3, Option.bind_some]
    have hx' := hx1 (by omega)
    have hy' : y = 0 ∨ y = 1 ∨ y = 9 ∨ y = 536870911 := by simpa using hy
    exact ⟨_, _, _, _, _, _, _, _, _, rfl, .inr (.inr (.inl ⟨rfl, hoff.1, hoff.2, rfl, rfl, by omega, by omega, by omega, by omega, rfl, rfl⟩)), by omega, by omega⟩
  rw [if_neg c2]
  obtain ⟨x, hx, e2⟩ := one_f k l (p + 1 + 1) ([0, 3, 536870911] : List Int) (by simp) (by simp) hk hb (by omega) (by omega)
  simp only [e2, Option.bind_some]
  obtain ⟨y, hy, e3⟩ := one_f k l (p + 1 + 1 + 1) ([0, 1, 4294967295] : List Int) (by simp) (by simp) hk hb (by omega) (by omega)
  simp only [e3, Option.bind_some]
  obtain ⟨z, e4, hz0, hz1⟩ := pick_f k l (p + 1 + 1 + 1 + 1) 2 hk hb (by omega) (by omega)
  simp only [e4, Option.bind_some]
  have hx' : x = 0 ∨ x = 3 ∨ x = 536870911 := by simpa using hx
  have hy' : y = 0 ∨ y = 1 ∨ y = 4294967295 := by simpa using hy
  exact ⟨_, _, _, _, _, _, _, _, _, rfl, .inr (.inr (.inr ⟨rfl, by omega, by omega, rfl, rfl, rfl, rfl, by omega, by omega⟩)), by omega, by omega⟩
theorem l13AnyPoint_f (k : Nat) (l : List Int) (p : Int) (hk : 1 ≤ k) (hb : Bytes l) (hp : 0 ≤ p) (hP : p ≤ 990000) :
    ∃ a b c d e f g h p', spec_l13AnyPoint.f k l p = some (a, b, c, d, e, f, g, h, p') := by
  unfold spec_l13AnyPoint.f
  obtain ⟨a, b, c, d, e, f, g, h, p', e0, _, h0, h1⟩ := l13Point_f k l p hk hb hp (by omega)
  rw [e0, Option.bind_some]
  obtain ⟨v, e1, hv0, hv1⟩ := pick_f k l p' 12 hk hb (by omega) (by omega)
  simp only [e1, Option.bind_some]
  obtain ⟨x, _, ex⟩ := one_f k l (p' + 1) ([1, (-1), 536870912] : List Int) (by simp) (by simp) hk hb (by omega) (by omega)
  obtain ⟨y, ey, _⟩ := pick_f k l (p' + 1) 6 hk hb (by omega) (by omega)
  obtain ⟨z, _, ez⟩ := one_f k l (p' + 1) ([0, 65536, 1] : List Int) (by simp) (by simp) hk hb (by omega) (by omega)
  obtain ⟨u, _, eu⟩ := one_f k l (p' + 1) ([8, 1, (-1)] : List Int) (by simp) (by simp) hk hb (by omega) (by omega)
  simp only [ex, ey, ez, eu, Option.bind_some]
  split
  · exact ⟨_, _, _, _, _, _, _, _, _, rfl⟩
  · split
    · exact ⟨_, _, _, _, _, _, _, _, _, rfl⟩
    · split
      · exact ⟨_, _, _, _, _, _, _, _, _, rfl⟩
      · split
        · exact ⟨_, _, _, _, _, _, _, _, _, rfl⟩
        · exact ⟨_, _, _, _, _, _, _, _, _, rfl⟩
theorem drawPut_f (k : Nat) (l : List Int) (hk : 1 ≤ k) (h : ∀ x ∈ l, (Lit.int .u8 x).wf = true) : ∃ a b c d e f g h, spec_DrawPointPut.f k l = some (a, b, c, d, e, f, g, h) := by
  obtain ⟨by_, e0, hb⟩ := open_f l h
  obtain ⟨a, b, c, d, e, f, g, h, p', e1⟩ := l13AnyPoint_f k by_ 0 hk hb (by omega) (by omega)
  unfold spec_DrawPointPut.f
  rw [e0, Option.bind_some]
  simp only [e1, Option.bind_some]
  exact ⟨_, _, _, _, _, _, _, _, rfl⟩
theorem l2Put_ok (a b c d e f g : Int) (h : Bool) (k : Nat) (hk : 10 < k) (hok : POk a b c d e f g h) : spec_l2Put.f k a b c d e f g h = some (putPV a b c d e f g h) := by
  have h1 := specPointPut_f a b c d e f g h k hk
  unfold spec_PointPut.f at h1
  rw [specPointOk_f k a b c d e f g h (by omega), Option.bind_some, decide_eq_true hok] at h1
  have h2 : (spec_l2Put.f k a b c d e f g h).bind (fun t => some t) = some (putPV a b c d e f g h) := by
    first | exact h1 | simpa using h1
  cases hq : spec_l2Put.f k a b c d e f g h with
  | none => rw [hq] at h2; cases h2
  | some y => rw [hq] at h2; exact h2
theorem drawGet_f (k : Nat) (l : List Int) (hk : 20 < k) (h : ∀ x ∈ l, (Lit.int .u8 x).wf = true) : ∃ s, spec_DrawPointGet.f k l = some s := by
  obtain ⟨by_, e0, hb⟩ := open_f l h
  unfold spec_DrawPointGet.f
  rw [e0, Option.bind_some]
  obtain ⟨v, e1, hv0, hv1⟩ := pick_f k by_ 0 4 (by omega) hb (by omega) (by omega)
  simp only [e1, Option.bind_some]
  by_cases c0 : v = 0
  · rw [if_pos c0]
    obtain ⟨a, b, c, d, e, f, g, h, p', e2, hok, _, _⟩ := l13Point_f k by_ (0 + 1) (by omega) hb (by omega) (by omega)
    simp only [e2, Option.bind_some]
    rw [l2Put_ok a b c d e f g h k (by omega) hok, Option.bind_some]
    exact ⟨_, rfl⟩
  rw [if_neg c0]
  by_cases c1 : v = 1
  · rw [if_pos c1]
    obtain ⟨m1, em1, hm1⟩ := many_f k ⟨#[255]⟩ 8 (by omega) (by omega) (by omega) (by decide) (by decide)
    obtain ⟨m2, em2, hm2⟩ := many_f k ⟨#[0]⟩ 7 (by omega) (by omega) (by omega) (by decide) (by decide)
    rw [em1, Option.bind_some, em2, Option.bind_some]
    have hz : m2.size = 7 := by rw [hm2]; rfl
    rw [if_pos (by omega)]
    obtain ⟨s, _, es⟩ := of_f k by_ (0 + 1) ([(⟨#[]⟩ : ByteArray), (⟨#[97, 98, 99]⟩ : ByteArray), m1, (⟨#[3]⟩ : ByteArray) ++ m2] : List ByteArray) (by simp) (by simp) (by omega) hb (by omega) (by omega)
    simp only [es, Option.bind_some]
    exact ⟨_, rfl⟩
  rw [if_neg c1]
  obtain ⟨x0, f0, _⟩ := pick_f k by_ (0 + 1) 256 (by omega) hb (by omega) (by omega)
  obtain ⟨x1, f1, _⟩ := pick_f k by_ (0 + 1 + 1) 256 (by omega) hb (by omega) (by omega)
  obtain ⟨x2, f2, _⟩ := pick_f k by_ (0 + 1 + 1 + 1) 256 (by omega) hb (by omega) (by omega)
  obtain ⟨x3, f3, _⟩ := pick_f k by_ (0 + 1 + 1 + 1 + 1) 256 (by omega) hb (by omega) (by omega)
  obtain ⟨x4, f4, _⟩ := pick_f k by_ (0 + 1 + 1 + 1 + 1 + 1) 4 (by omega) hb (by omega) (by omega)
  simp only [f0, f1, f2, f3, f4, Option.bind_some]
  exact ⟨_, rfl⟩
end Go.Proofs.Ytfeodfgjpjddhaa.Lem
namespace Go.Proofs.Ytfeodfgjpjddhaa.Pure
set_option linter.unusedVariables false
open Go Go.RowKit Go.Proofs.Ytfeodfgjpjddhaa.P Go.Proofs.Ytfeodfgjpjddhaa.Lem Go.Proofs.YtfeodfgjpjddhaaW.PrintWords Go.Proofs.YtfeodfgjpjddhaaW.PrintLast
theorem ba_len_toList (s : ByteArray) : s.toList.length = s.size := by rw [ByteArray.toList_eq, Array.length_toList]; rfl
theorem putPV_nil (a b c d e f g : Int) (h : Bool) : ((putPV a b c d e f g h).toList != ([] : List UInt8)) = decide (POk a b c d e f g h) := by
  unfold putPV
  by_cases hok : POk a b c d e f g h
  · rw [if_pos hok, decide_eq_true hok]
    have hz : (strOfNums (leB (numOf a b c d e f g h) 8)).size = 8 := by rw [strOf_size, leB_length]
    have hl := ba_len_toList (strOfNums (leB (numOf a b c d e f g h) 8))
    rw [hz] at hl
    cases hq : (strOfNums (leB (numOf a b c d e f g h) 8)).toList with
    | nil => rw [hq] at hl; simp at hl
    | cons x xs => rfl
  · rw [if_neg hok, decide_eq_false hok, ByteArray.toList_eq]
    rfl
theorem pt_same (k : Nat) (s : ByteArray) (a b c d e f g : Int) (h : Bool) (hk : 10 < k) (hq : pointGetV s = (a, b, c, d, e, f, g, h)) (x : Bool) (hx : x = (a == 4)) : laws_FnPoint.j2 (k + 1) s x a b c d e f g h = some true := by
  simp only [laws_FnPoint.j2]
  cases x with
  | true =>
    rw [if_pos rfl, specPointGet_f s k hk, hq, Option.bind_some]
    simp
  | false =>
    rw [if_neg (by decide), implPointOk_f, Option.bind_some]
    have ha : a ≠ 4 := by intro h4; rw [h4] at hx; exact absurd hx (by decide)
    obtain ⟨h1, h2⟩ := pt_put_get s a b c d e f g h hq ha
    rw [if_pos (decide_eq_true h1), implPointPut_f _ _ _ _ _ _ _ _ k hk, Option.bind_some, h2]
    simp
theorem second (k : Nat) (l1 : List Int) (hk : 20 < k) (h1 : ∀ x ∈ l1, (Lit.int .u8 x).wf = true) : laws_FnPoint.j1 (k + 2) l1 false = some true := by
  simp only [laws_FnPoint.j1]
  rw [if_neg (by decide)]
  obtain ⟨s, hs⟩ := drawGet_f (k + 1) l1 (by omega) h1
  rw [hs, Option.bind_some, implPointGet_f s (k + 1) (by omega), Option.bind_some, specPointGet_f s (k + 1) (by omega), Option.bind_some]
  obtain ⟨a, b, c, d, e, f, g, h, hq⟩ : ∃ a b c d e f g h, pointGetV s = (a, b, c, d, e, f, g, h) := ⟨_, _, _, _, _, _, _, _, rfl⟩
  rw [hq, if_neg (by simp)]
  exact pt_same k s a b c d e f g h (by omega) hq _ rfl
theorem FnPoint : laws_FnPoint.Pure := by
  intro l0 l1 _ _ h0 _ _ h1
  obtain ⟨k, hk⟩ : ∃ k : Nat, 100 ≤ k := ⟨100, Nat.le_refl _⟩
  refine ⟨k + 3, ?_⟩
  have main : laws_FnPoint.j0 (k + 3) l0 l1 false = some true := by
    simp only [laws_FnPoint.j0]
    rw [if_neg (by decide)]
    obtain ⟨a, b, c, d, e, f, g, h, hd⟩ := drawPut_f (k + 2) l0 (by omega) h0
    rw [hd, Option.bind_some]
    simp only
    rw [implPointPut_f _ _ _ _ _ _ _ _ (k + 2) (by omega), Option.bind_some, specPointPut_f _ _ _ _ _ _ _ _ (k + 2) (by omega), Option.bind_some, if_pos rfl,
      implPointOk_f, Option.bind_some, specPointOk_f (k + 2) a b c d e f g h (by omega), Option.bind_some, if_neg (by simp), Option.bind_some, putPV_nil, if_neg (by simp)]
    have h2 := second k l1 (by omega) h1
    by_cases hok : POk a b c d e f g h
    · have hn : ¬ (putPV a b c d e f g h).toList = ([] : List UInt8) := by
        have := putPV_nil a b c d e f g h
        rw [decide_eq_true hok] at this
        simpa using this
      rw [if_neg hn, implPointGet_f _ (k + 2) (by omega), Option.bind_some, pt_get_put a b c d e f g h hok]
      simp only [beq_self_eq_true, Bool.not_true, Bool.or_self]
      exact h2
    · have hn : (putPV a b c d e f g h).toList = ([] : List UInt8) := by
        have := putPV_nil a b c d e f g h
        rw [decide_eq_false hok] at this
        simpa using this
      rw [if_pos hn]
      exact h2
  unfold laws_FnPoint.f
  by_cases hb : (l0.length : Int) > 1048576
  · rw [if_pos hb]; simp only [laws_FnPoint.j0]; rw [if_pos trivial]
  · rw [if_neg hb]
    by_cases hc : (l1.length : Int) > 1048576
    · rw [decide_eq_true hc]; simp only [laws_FnPoint.j0]; rw [if_pos trivial]
    · rw [decide_eq_false hc]; exact main
end Go.Proofs.Ytfeodfgjpjddhaa.Pure
