/- What PointPut answers, of the program and of the reference: the eight bytes of one number. -/
import Derived.Test.YtfeodfgjpjddhaaLemPointGet
import Derived.Test.YtfeodfgjpjddhaaLemPointOk
import Derived.Test.YtfeodfgjpjddhaaLemPut2
import Derived.Test.YtfeodfgjpjddhaaPx5
import Derived.Test.YtfeodfgjpjddhaaPx6
import Derived.Test.YtfeodfgjpjddhaaPx7
import Derived.Test.YtfeodfgjpjddhaaPx8
namespace Go.Proofs.Ytfeodfgjpjddhaa.Lem
set_option linter.unusedVariables false
set_option linter.unusedSimpArgs false
open Go Go.RowKit Go.Proofs.Ytfeodfgjpjddhaa.P Go.Proofs.YtfeodfgjpjddhaaW.PrintWords Go.Proofs.YtfeodfgjpjddhaaW.PrintLast Go.Proofs.YtfeodfgjpjddhaaW.PrintMore
theorem nat_mod (x : Int) (i : Nat) (hx : 0 ≤ x) (hm : x % ((2 ^ i : Nat) : Int) = 0) : x.toNat % 2 ^ i = 0 := by
  have h : ((x.toNat % 2 ^ i : Nat) : Int) = 0 := by rw [Int.natCast_emod, Int.toNat_of_nonneg hx]; exact hm
  exact_mod_cast h
theorem orU (x y : Int) (i : Nat) (hi : i ≤ 64) (hx : 0 ≤ x) (hX : x < 18446744073709551616) (hy : 0 ≤ y) (hY : y < ((2 ^ i : Nat) : Int)) (hm : x % ((2 ^ i : Nat) : Int) = 0) : Go.bits .or .u64 y x = y + x := by
  have hp : 2 ^ i ≤ 2 ^ 64 := Nat.pow_le_pow_right (by decide) hi
  rw [u64_or _ _ hy (by omega) hx hX, Nat.or_comm, nat_join i _ _ (nat_mod x i hx hm) (by omega)]
  omega
theorem orU' (x y : Int) (i : Nat) (hi : i ≤ 64) (hx : 0 ≤ x) (hX : x < 18446744073709551616) (hy : 0 ≤ y) (hY : y < ((2 ^ i : Nat) : Int)) (hm : x % ((2 ^ i : Nat) : Int) = 0) : Go.bits .or .u64 x y = x + y := by
  have hp : 2 ^ i ≤ 2 ^ 64 := Nat.pow_le_pow_right (by decide) hi
  rw [u64_or _ _ hx hX hy (by omega), nat_join i _ _ (nat_mod x i hx hm) (by omega)]
  omega
theorem orI (x y : Int) (i : Nat) (hi : i ≤ 32) (hx : 0 ≤ x) (hX : x < 4611686018427387904) (hy : 0 ≤ y) (hY : y < ((2 ^ i : Nat) : Int)) (hm : x % ((2 ^ i : Nat) : Int) = 0) : Go.bits .or .i64 x y = x + y := by
  have hp : 2 ^ i ≤ 2 ^ 32 := Nat.pow_le_pow_right (by decide) hi
  rw [or_i64]
  have e1 : (x % 18446744073709551616).toNat = x.toNat := by omega
  have e2 : (y % 18446744073709551616).toNat = y.toNat := by omega
  rw [e1, e2, nat_join i _ _ (nat_mod x i hx hm) (by omega), wrap64_id (by omega) (by omega)]
  omega
theorem leB_wrap (n : Int) : leB (wrap64 n) 8 = leB n 8 := by
  unfold leB
  apply List.map_congr_left
  intro i hi
  exact wrap_digit n i (by simpa using hi)
theorem leB8 (n : Int) : leB n 8 = [n / 1 % 256, n / 256 % 256, n / 65536 % 256, n / 16777216 % 256, n / 4294967296 % 256, n / 1099511627776 % 256, n / 281474976710656 % 256, n / 72057594037927936 % 256] := rfl
theorem leB4 (n : Int) : leB n 4 = [n / 1 % 256, n / 256 % 256, n / 65536 % 256, n / 16777216 % 256] := rfl
theorem leB2 (n : Int) : leB n 2 = [n / 1 % 256, n / 256 % 256] := rfl
theorem strApp (a b : List Int) : strOfNums a ++ strOfNums b = strOfNums (a ++ b) := by
  apply ByteArray.ext
  simp [strOfNums]
/-- Thirty bits. -/
def b30 (b : Int) : Int := b % 1073741824
theorem and30 (b : Int) : Go.bits .and .u64 (IntKind.u64.wrap b) 1073741823 = b30 b := by
  have h : Go.bits .and .u64 (IntKind.u64.wrap b) 1073741823 = IntKind.u64.wrap b % 1073741824 := mask_u64 _ 30 (by decide) (by rw [IntKind.wrap_u64]; omega) (by rw [IntKind.wrap_u64]; omega)
  rw [h, IntKind.wrap_u64]; unfold b30; omega
theorem and32 (b : Int) (h0 : -536870912 ≤ b) (h1 : b ≤ 536870911) : Go.bits .and .i64 (wrap64 (b * 4)) 4294967295 = b30 b * 4 := by
  rw [wrap64_id (by omega) (by omega), and_i64]
  have e2 : ((4294967295 : Int) % 18446744073709551616).toNat = 2 ^ 32 - 1 := by decide
  rw [e2, Nat.and_two_pow_sub_one_eq_mod]
  have hm : (b * 4 % 18446744073709551616).toNat % 2 ^ 32 < 2 ^ 32 := Nat.mod_lt _ (by decide)
  rw [wrap64_id (by omega) (by omega)]
  unfold b30
  omega
/-- The number that a pointer is. -/
def numOf (a b c d e f g : Int) (h : Bool) : Int :=
  if a = 1 then b30 b * 4 + c * 4294967296 + d * 281474976710656 else if a = 2 then 1 + b30 b * 4 + e * 4294967296 + f * 34359738368 else if a = 3 then 2 + b30 b * 8 + g * 4294967296 + b2i h * 4 else 0
def putPV (a b c d e f g : Int) (h : Bool) : ByteArray := if POk a b c d e f g h then strOfNums (leB (numOf a b c d e f g h) 8) else ⟨#[]⟩
theorem implPointPut_f (a b c d e f g : Int) (h : Bool) (k : Nat) (hk : 10 < k) : impl_PointPut.f k a b c d e f g h = some (putPV a b c d e f g h) := by
  unfold impl_PointPut.f putPV
  rw [implPointOk_f, Option.bind_some]
  by_cases hok : POk a b c d e f g h
  · rw [if_pos (decide_eq_true hok), if_pos hok]
    have hb : ∀ m : Int, (impl_bytesOf.f k (wrap64 m) 8).bind (fun t => some t) = some (strOfNums (leB m 8)) := by
      intro m
      have := bytesOf_f (wrap64 m) 8 (by omega) k (by omega)
      have c8 : ((8 : Nat) : Int) = 8 := rfl
      rw [c8] at this
      rw [this, leB_wrap]; rfl
    have r30 : 0 ≤ b30 b ∧ b30 b < 1073741824 := by unfold b30; omega
    have hf0 := hf0
    rw [and30]
    unfold POk at hok
    by_cases h1 : a = 1
    · rw [if_pos h1]
      have hc : 0 ≤ c ∧ c ≤ 65535 ∧ 0 ≤ d ∧ d ≤ 65535 := by omega
      have e : Go.bits .or .u64 (Go.bits .or .u64 (IntKind.u64.wrap (b30 b * 4)) (IntKind.u64.wrap ((IntKind.u64.wrap c) * 4294967296))) (IntKind.u64.wrap ((IntKind.u64.wrap d) * 281474976710656)) = numOf a b c d e f g h := by
        unfold numOf
        rw [if_pos h1, u64_id (n := c) (by omega) (by omega), u64_id (n := d) (by omega) (by omega), u64_id (n := b30 b * 4) (by omega) (by omega), u64_id (n := c * 4294967296) (by omega) (by omega), u64_id (n := d * 281474976710656) (by omega) (by omega),
          orU (c * 4294967296) (b30 b * 4) 32 (by decide) (by omega) (by omega) (by omega) (by show _ < (4294967296 : Int); omega) (by show _ % (4294967296 : Int) = 0; omega),
          orU (d * 281474976710656) _ 48 (by decide) (by omega) (by omega) (by omega) (by show _ < (281474976710656 : Int); omega) (by show _ % (281474976710656 : Int) = 0; omega)]
      rw [e]; exact hb _
    · rw [if_neg h1]
      by_cases h2 : a = 2
      · rw [if_pos h2]
        have hc : 0 ≤ e ∧ e ≤ 7 ∧ 0 ≤ f ∧ f ≤ 536870911 := by omega
        have e' : Go.bits .or .u64 (Go.bits .or .u64 (Go.bits .or .u64 1 (IntKind.u64.wrap (b30 b * 4))) (IntKind.u64.wrap ((IntKind.u64.wrap e) * 4294967296))) (IntKind.u64.wrap ((IntKind.u64.wrap f) * 34359738368)) = numOf a b c d e f g h := by
          unfold numOf
          rw [if_neg h1, if_pos h2, u64_id (n := e) (by omega) (by omega), u64_id (n := f) (by omega) (by omega), u64_id (n := b30 b * 4) (by omega) (by omega), u64_id (n := e * 4294967296) (by omega) (by omega), u64_id (n := f * 34359738368) (by omega) (by omega),
            orU (b30 b * 4) 1 2 (by decide) (by omega) (by omega) (by omega) (by show _ < (4 : Int); omega) (by show _ % (4 : Int) = 0; omega),
            orU (e * 4294967296) _ 32 (by decide) (by omega) (by omega) (by omega) (by show _ < (4294967296 : Int); omega) (by show _ % (4294967296 : Int) = 0; omega),
            orU (f * 34359738368) _ 35 (by decide) (by omega) (by omega) (by omega) (by show _ < (34359738368 : Int); omega) (by show _ % (34359738368 : Int) = 0; omega)]
        rw [e']; exact hb _
      · rw [if_neg h2]
        by_cases h3 : a = 3
        · rw [if_pos h3]
          have hc : 0 ≤ b ∧ b ≤ 536870911 ∧ 0 ≤ g ∧ g ≤ 4294967295 := by omega
          have hbb : b30 b = b := by unfold b30; omega
          rw [hbb]
          have base : Go.bits .or .u64 (Go.bits .or .u64 2 (IntKind.u64.wrap (b * 8))) (IntKind.u64.wrap ((IntKind.u64.wrap g) * 4294967296)) = 2 + b * 8 + g * 4294967296 := by
            rw [u64_id (n := g) (by omega) (by omega), u64_id (n := b * 8) (by omega) (by omega), u64_id (n := g * 4294967296) (by omega) (by omega),
              orU (b * 8) 2 3 (by decide) (by omega) (by omega) (by omega) (by show _ < (8 : Int); omega) (by show _ % (8 : Int) = 0; omega),
              orU (g * 4294967296) _ 32 (by decide) (by omega) (by omega) (by omega) (by show _ < (4294967296 : Int); omega) (by show _ % (4294967296 : Int) = 0; omega)]
          rw [base]
          cases h with
          | true =>
            rw [if_pos rfl]
            have e4 : Go.bits .or .u64 (2 + b * 8 + g * 4294967296) 4 = 2 + b * 8 + g * 4294967296 + 4 := by
              rw [u64_or _ _ (by omega) (by omega) (by omega) (by omega)]
              have ha : (2 + b * 8 + g * 4294967296).toNat = (b.toNat * 8 + g.toNat * 4294967296) ||| 2 := by
                rw [nat_join 3 _ 2 (by omega) (by omega)]; omega
              have h6 : (4 : Int).toNat = 4 := rfl
              rw [ha, h6, Nat.or_assoc, show (2 : Nat) ||| 4 = 6 from rfl, nat_join 3 _ 6 (by omega) (by omega)]
              omega
            have en : numOf a b c d e f g true = 2 + b * 8 + g * 4294967296 + 4 := by
              unfold numOf; rw [if_neg h1, if_neg h2, if_pos h3, hbb, show b2i true = 1 from rfl]; omega
            rw [e4, en]; exact hb _
          | false =>
            rw [if_neg (by simp)]
            have en : numOf a b c d e f g false = 2 + b * 8 + g * 4294967296 := by
              unfold numOf; rw [if_neg h1, if_neg h2, if_pos h3, hbb, hf0]; omega
            rw [en]; exact hb _
        · rw [if_neg h3]
          have en : numOf a b c d e f g h = 0 := by unfold numOf; rw [if_neg h1, if_neg h2, if_neg h3]
          have e0 : wrap64 0 = 0 := wrap64_id (by omega) (by omega)
          have := hb 0
          rw [e0] at this
          rw [en]; exact this
  · rw [if_neg (by simpa using hok), if_neg hok]
theorem specPointPut_f (a b c d e f g : Int) (h : Bool) (k : Nat) (hk : 10 < k) : spec_PointPut.f k a b c d e f g h = some (putPV a b c d e f g h) := by
  unfold spec_PointPut.f putPV
  rw [specPointOk_f k a b c d e f g h (by omega), Option.bind_some]
  by_cases hok : POk a b c d e f g h
  · rw [if_pos (decide_eq_true hok), if_pos hok]
    unfold spec_l2Put.f
    have q8 : ∀ m : Int, spec_l1Bytes.f k m 8 = some (strOfNums (leB m 8)) := fun m => l1Bytes_f m 8 (by omega) k (by omega)
    have q4 : ∀ m : Int, spec_l1Bytes.f k m 4 = some (strOfNums (leB m 4)) := fun m => l1Bytes_f m 4 (by omega) k (by omega)
    have q2 : ∀ m : Int, spec_l1Bytes.f k m 2 = some (strOfNums (leB m 2)) := fun m => l1Bytes_f m 2 (by omega) k (by omega)
    have z : ∀ (m : Int) (d : Nat), (strOfNums (leB m d)).size = d := fun m d => by rw [strOfNums_size, leB_length]
    have r30 : 0 ≤ b30 b ∧ b30 b < 1073741824 := by unfold b30; omega
    unfold POk at hok
    by_cases h1 : a = 1
    · have hc : -536870912 ≤ b ∧ b ≤ 536870911 ∧ 0 ≤ c ∧ c ≤ 65535 ∧ 0 ≤ d ∧ d ≤ 65535 := by omega
      rw [if_pos h1, and32 b hc.1 hc.2.1, q4, q2, q2]
      simp only [Option.bind_some]
      rw [if_pos (by rw [z, z]; decide), if_pos (by rw [ByteArray.size_append, z, z, z]; decide), Option.bind_some, strApp, strApp]
      congr 2
      unfold numOf
      rw [if_pos h1, leB8, leB4, leB2, leB2]
      simp only [List.cons_append, List.nil_append]
      congr 1; · omega
      congr 1; · omega
      congr 1; · omega
      congr 1; · omega
      congr 1; · omega
      congr 1; · omega
      congr 1; · omega
      congr 1; omega
    · rw [if_neg h1]
      by_cases h2 : a = 2
      · have hc : -536870912 ≤ b ∧ b ≤ 536870911 ∧ 0 ≤ e ∧ e ≤ 7 ∧ 0 ≤ f ∧ f ≤ 536870911 := by omega
        rw [if_pos h2, and32 b hc.1 hc.2.1, orI (b30 b * 4) 1 2 (by decide) (by omega) (by omega) (by omega) (by show _ < (4 : Int); omega) (by show _ % (4 : Int) = 0; omega), wrap64_id (n := f * 8) (by omega) (by omega),
          orI (f * 8) e 3 (by decide) (by omega) (by omega) (by omega) (by show _ < (8 : Int); omega) (by show _ % (8 : Int) = 0; omega), q4, q4]
        simp only [Option.bind_some]
        rw [if_pos (by rw [z, z]; decide), Option.bind_some, strApp]
        congr 2
        unfold numOf
        rw [if_neg h1, if_pos h2, leB8, leB4, leB4]
        simp only [List.cons_append, List.nil_append]
        congr 1; · omega
        congr 1; · omega
        congr 1; · omega
        congr 1; · omega
        congr 1; · omega
        congr 1; · omega
        congr 1; · omega
        congr 1; omega
      · rw [if_neg h2]
        by_cases h3 : a = 3
        · have hc : 0 ≤ b ∧ b ≤ 536870911 ∧ 0 ≤ g ∧ g ≤ 4294967295 := by omega
          have hbb : b30 b = b := by unfold b30; omega
          rw [if_pos h3, wrap64_id (n := b * 8) (by omega) (by omega)]
          have hl : ∀ m : Int, m = 2 + b * 8 + b2i h * 4 → strOfNums (leB m 4) ++ strOfNums (leB g 4) = strOfNums (leB (numOf a b c d e f g h) 8) := by
            intro m hm
            have hb2 : 0 ≤ b2i h ∧ b2i h ≤ 1 := by unfold b2i; split <;> omega
            rw [strApp]
            congr 1
            unfold numOf
            rw [if_neg h1, if_neg h2, if_pos h3, hbb, leB8, leB4, leB4]
            simp only [List.cons_append, List.nil_append]
            congr 1; · omega
            congr 1; · omega
            congr 1; · omega
            congr 1; · omega
            congr 1; · omega
            congr 1; · omega
            congr 1; · omega
            congr 1; omega
          cases h with
          | true =>
            rw [if_pos rfl, orI (b * 8) 4 3 (by decide) (by omega) (by omega) (by omega) (by show _ < (8 : Int); omega) (by show _ % (8 : Int) = 0; omega),
              orI (b * 8 + 4) 2 2 (by decide) (by omega) (by omega) (by omega) (by show _ < (4 : Int); omega) (by show _ % (4 : Int) = 0; omega), q4, q4]
            simp only [Option.bind_some]
            rw [if_pos (by rw [z, z]; decide), Option.bind_some, hl _ (by show _ = 2 + b * 8 + 1 * 4; omega)]
          | false =>
            rw [if_neg (by simp), orI (b * 8) 0 3 (by decide) (by omega) (by omega) (by omega) (by show _ < (8 : Int); omega) (by show _ % (8 : Int) = 0; omega),
              orI (b * 8 + 0) 2 2 (by decide) (by omega) (by omega) (by omega) (by show _ < (4 : Int); omega) (by show _ % (4 : Int) = 0; omega), q4, q4]
            simp only [Option.bind_some]
            rw [if_pos (by rw [z, z]; decide), Option.bind_some, hl _ (by show _ = 2 + b * 8 + 0 * 4; omega)]
        · have en : numOf a b c d e f g h = 0 := by unfold numOf; rw [if_neg h1, if_neg h2, if_neg h3]
          rw [if_neg h3, q8, en]; rfl
  · rw [if_neg (by simpa using hok), if_neg hok]
end Go.Proofs.Ytfeodfgjpjddhaa.Lem
