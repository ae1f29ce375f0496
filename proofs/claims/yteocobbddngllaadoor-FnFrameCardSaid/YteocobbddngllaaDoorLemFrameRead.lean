/- What the two FrameGet answer: the plain reading. -/
import Derived.Test.YteocobbddngllaaDoorLemFrameLaw
import Derived.Test.YteocobbddngllaaDoorLemZero
import Derived.Test.YteocobbddngllaaDoorStubStrTrim
import Derived.Test.YteocobbddngllaaDoorPx1
import Derived.Test.YteocobbddngllaaDoorPx20
import Derived.Test.YteocobbddngllaaDoorPx21
import Derived.Test.YteocobbddngllaaDoorPx27
import Derived.Test.YteocobbddngllaaDoorPx28
namespace Go.Proofs.YteocobbddngllaaDoor.Lem
set_option linter.unusedVariables false
set_option linter.unusedSimpArgs false
open Go Go.RowKit Go.Proofs.YteocobbddngllaaDoor Go.Proofs.YteocobbddngllaaDoor.P Go.Proofs.YteocobbddngllaaDoorW.PrintWords Go.Proofs.YteocobbddngllaaDoorW.PrintLast Go.Proofs.YteocobbddngllaaDoorW.PrintMore
theorem wrapM {a : Int} (m : Nat) (h : a = m) (hm : m ≤ 4000000000000000000) : wrap64 a = (m : Int) := by rw [wrap64_id (by omega) (by omega)]; exact h
theorem fetch4 (t : List UInt8) (a k : Nat) (ha : a ≤ 1000) (hk : 4 < k) : impl_fetch.f k (B t) a 4 = some (n4 (t.drop a) : Int) := by
  rw [fetch_f (B t) a 4 (by omega) (by omega) (by omega) (by omega) k (by omega)]
  have e : (4 : Int).toNat = 4 := rfl
  rw [e, acc_at]
  have := n4_lt (t.drop a)
  rw [wrapM _ rfl (by omega)]
theorem get4 (t : List UInt8) (a k : Nat) (ha : a ≤ 1000) (hk : 4 < k) : spec_l1Get.f k (B t) a 4 = some (n4 (t.drop a) : Int) := by
  rw [l1Get_f (B t) a 4 (by omega) (by omega) (by omega) (by omega) k (by omega)]
  have e : (4 : Int).toNat = 4 := rfl
  rw [e, acc_at]
  have := n4_lt (t.drop a)
  rw [wrapM _ rfl (by omega)]
theorem headE : ∀ n : Fin 7, wrap64 ((wrap64 (Int.tdiv (wrap64 ((wrap64 ((wrap64 (4 * (wrap64 (((n.1 : Nat) : Int) + 1)))) + 8)) - 1)) 8)) * 8) = ((hd8 n.1 : Nat) : Int) := by decide +kernel
theorem szs_succ : ∀ (n : Nat) (u : List UInt8), szs (n + 1) u = szs n u ++ [n4 (u.drop (4 * n))] := by
  intro n
  induction n with
  | zero => intro u; rfl
  | succ n ih =>
    intro u
    have h := ih (u.drop 4)
    have e : 4 + 4 * n = 4 * (n + 1) := by omega
    rw [List.drop_drop, e] at h
    show n4 u :: szs (n + 1) (u.drop 4) = (n4 u :: szs n (u.drop 4)) ++ _
    rw [h]; rfl
theorem sumN_app : ∀ (l : List Nat) (m : Nat), sumN (l ++ [m]) = sumN l + m := by
  intro l
  induction l with
  | nil => intro m; show m + 0 = 0 + m; omega
  | cons a l ih => intro m; show a + sumN (l ++ [m]) = a + sumN l + m; rw [ih]; omega
theorem sumN_le : ∀ (n : Nat) (u : List UInt8), sumN (szs n u) ≤ 4294967296 * n := by
  intro n
  induction n with
  | zero => intro u; exact Nat.zero_le _
  | succ n ih =>
    intro u
    have h1 := ih (u.drop 4)
    have h2 := n4_lt u
    show n4 u + sumN (szs n (u.drop 4)) ≤ _
    omega
def intL (l : List Nat) : List Int := l.map fun (z : Nat) => (z : Int)
theorem dw_nil (p : UInt8 → Bool) : ∀ l : List UInt8, (l.dropWhile p = []) ↔ ∀ x ∈ l, p x = true := by
  intro l
  induction l with
  | nil => simp
  | cons a l ih =>
    cases ha : p a with
    | true => rw [List.dropWhile_cons_of_pos ha, ih]; simp [ha]
    | false => rw [List.dropWhile_cons_of_neg (by rw [ha]; decide)]; simp [ha]
theorem trimB_nil (u : List UInt8) : (Lib.trimB u 0 = []) ↔ (u.all (fun c => c == 0) = true) := by
  constructor
  · intro h
    unfold Lib.trimB Lib.trimLeftB at h
    rw [List.all_eq_true]
    intro c hc
    have hd := (dw_nil _ _).1 h
    by_cases hz : (c == 0) = true
    · exact hz
    · unfold Lib.trimRightB at hd
      have hr : u.reverse.dropWhile (fun x => x == 0) ≠ [] := by
        intro hn
        exact hz (((dw_nil _ _).1 hn) c (List.mem_reverse.2 hc))
      obtain ⟨x, l, hxl⟩ := List.exists_cons_of_ne_nil hr
      have hx : (x == 0) = true := hd x (by rw [hxl]; simp)
      have hnx : ¬ (x == 0) = true := by
        have := List.head_dropWhile_not (fun x : UInt8 => x == 0) hr
        simp only [hxl, List.head_cons] at this
        rw [this]; decide
      exact absurd hx hnx
  · intro h
    rw [List.all_eq_true] at h
    unfold Lib.trimB Lib.trimLeftB Lib.trimRightB
    have hn : u.reverse.dropWhile (fun x => x == 0) = [] := (dw_nil _ _).2 (fun x hx => h x (List.mem_reverse.1 hx))
    rw [hn]; rfl
/-- The program's segments, one by one. -/
theorem implCut (t : List UInt8) (ht : t.length ≤ 1000000000) : ∀ (zs pre : List Nat) (k at_ : Nat) (acc : List ByteArray), zs.length < k → at_ + 8 * sumN zs ≤ t.length → acc.length + zs.length ≤ 100 → pre.length + zs.length ≤ 10 →
    impl_FrameGet.l1 k (B t) acc at_ (intL (pre ++ zs)) ((pre ++ zs).length : Int) pre.length = some (acc ++ (cutL zs (t.drop at_)).map B, ((at_ + 8 * sumN zs : Nat) : Int)) := by
  intro zs
  induction zs with
  | nil =>
    intro pre k a acc hk _ _ _
    obtain ⟨k, rfl⟩ : ∃ m, k = m + 1 := ⟨k - 1, by simp at hk; omega⟩
    simp only [impl_FrameGet.l1]
    rw [List.append_nil, if_neg (by omega)]
    simp [cutL, sumN]
  | cons z zs ih =>
    intro pre k a acc hk ha hacc hp
    have hs : sumN (z :: zs) = z + sumN zs := rfl
    rw [hs] at ha
    rw [List.length_cons] at hk hp hacc
    obtain ⟨k, rfl⟩ : ∃ m, k = m + 1 := ⟨k - 1, by omega⟩
    simp only [impl_FrameGet.l1]
    have hll : (intL (pre ++ z :: zs)).length = (pre ++ z :: zs).length := by simp [intL]
    have hrd : rd (intL (pre ++ z :: zs)) (pre.length : Int) = (z : Int) := by
      unfold rd intL
      rw [Int.toNat_natCast, List.getD_eq_getElem?_getD, List.getElem?_map, List.getElem?_append_right (Nat.le_refl _), Nat.sub_self]; rfl
    have hl2 : (pre ++ z :: zs).length = pre.length + zs.length + 1 := by rw [List.length_append, List.length_cons]; omega
    have ihh := ih (pre ++ [z]) k (a + 8 * z) (acc ++ [B ((t.drop a).take (8 * z))]) (by omega) (by omega) (by rw [List.length_append, List.length_singleton]; omega) (by rw [List.length_append, List.length_singleton]; omega)
    have e0 : pre ++ [z] ++ zs = pre ++ z :: zs := by simp
    have e0l : (pre ++ [z]).length = pre.length + 1 := by simp
    rw [e0, e0l] at ihh
    have hx : (B t).extract (a : Int).toNat ((a + 8 * z : Nat) : Int).toNat = B ((t.drop a).take (8 * z)) := by
      rw [Int.toNat_natCast, Int.toNat_natCast, B_extract, List.drop_take]; congr 2; omega
    rw [hrd, wrapM (a := 8 * (z : Int)) (8 * z) (by omega) (by omega), wrapM (a := (a : Int) + ((8 * z : Nat) : Int)) (a + 8 * z) (by omega) (by omega), wrapM (a := (pre.length : Int) + 1) (pre.length + 1) (by omega) (by omega), hll, B_size, hx, hl2]
    rw [hl2] at ihh
    rw [if_pos (by omega), if_pos (by omega), if_pos (by omega), if_pos (by omega), if_pos (by omega), if_pos (by omega), if_pos (by omega), ihh, hs]
    have e9 : a + 8 * z + 8 * sumN zs = a + 8 * (z + sumN zs) := by omega
    rw [e9]
    simp only [cutL, List.map_cons, List.drop_drop, List.append_assoc, List.singleton_append]
theorem implSizes (t : List UInt8) (ht : t.length ≤ 1000000000) (n : Nat) (hn : n ≤ 6) (hh : hd8 n ≤ t.length) : ∀ (d k i : Nat), i + d = n → d + 30 ≤ k →
    impl_FrameGet.l0 k (B t) n (hd8 n : Nat) (intL (szs i (t.drop 4))) (sumN (szs i (t.drop 4)) : Nat) n i =
      some (if 200 < sumN (szs n (t.drop 4)) ∨ ((t.take (hd8 n)).drop (4 * (n + 1))).all (fun c => c == 0) = false then ([], -1)
        else if t.length < hd8 n + 8 * sumN (szs n (t.drop 4)) then ([], 0)
        else ((cutL (szs n (t.drop 4)) (t.drop (hd8 n))).map B, ((hd8 n + 8 * sumN (szs n (t.drop 4)) : Nat) : Int))) := by
  intro d
  induction d with
  | zero =>
    intro k i hi hk
    obtain rfl : i = n := by omega
    obtain ⟨k, rfl⟩ : ∃ m, k = m + 1 := ⟨k - 1, by omega⟩
    simp only [impl_FrameGet.l0]
    have hb : 4 * (i + 1) ≤ hd8 i ∧ hd8 i ≤ 40 := by unfold hd8; omega
    have hle := sumN_le i (t.drop 4)
    have hzl := szs_length i (t.drop 4)
    rw [if_neg (by omega)]
    generalize hS : szs i (t.drop 4) = zs at *
    have hj : ∀ b : Bool, impl_FrameGet.j1 k (B t) (hd8 i : Nat) (intL zs) (sumN zs : Nat) b = some (if b = true then ([], -1) else if t.length < hd8 i + 8 * sumN zs then ([], 0) else ((cutL zs (t.drop (hd8 i))).map B, ((hd8 i + 8 * sumN zs : Nat) : Int))) ∨ 200 < sumN zs := by
      intro b
      by_cases h200 : 200 < sumN zs
      · exact Or.inr h200
      · left
        obtain ⟨k, rfl⟩ : ∃ m, k = m + 1 := ⟨k - 1, by omega⟩
        simp only [impl_FrameGet.j1]
        cases b with
        | true => rfl
        | false =>
          rw [if_neg (show ¬ (false = true) by decide), if_neg (show ¬ (false = true) by decide), wrapM (a := 8 * ((sumN zs : Nat) : Int)) (8 * sumN zs) (by omega) (by omega), wrapM (a := ((hd8 i : Nat) : Int) + ((8 * sumN zs : Nat) : Int)) (hd8 i + 8 * sumN zs) (by omega) (by omega), B_size]
          by_cases hc : t.length < hd8 i + 8 * sumN zs
          · rw [if_pos (by omega), if_pos hc]
          · rw [if_neg (by omega), if_neg hc]
            have := implCut t ht zs [] k (hd8 i) [] (by omega) (by omega) (by simp; omega) (by simp; omega)
            simp only [List.nil_append] at this
            have e0 : (([] : List Nat).length : Int) = 0 := rfl
            rw [e0] at this
            have e1 : ((intL zs).length : Int) = (zs.length : Int) := by simp [intL]
            rw [e1]
            exact this
    by_cases h200 : 200 < sumN zs
    · rw [if_pos (by omega), if_pos (Or.inl h200)]
      obtain ⟨k, rfl⟩ : ∃ m, k = m + 1 := ⟨k - 1, by omega⟩
      simp only [impl_FrameGet.j1]
      rw [if_pos trivial]
    · have hx : (B t).extract ((4 * (i + 1) : Nat) : Int).toNat ((hd8 i : Nat) : Int).toNat = B ((t.take (hd8 i)).drop (4 * (i + 1))) := by
        rw [Int.toNat_natCast, Int.toNat_natCast, B_extract]
      rw [if_neg (by omega), wrapM (a := (i : Int) + 1) (i + 1) (by omega) (by omega), wrapM (a := 4 * ((i + 1 : Nat) : Int)) (4 * (i + 1)) (by omega) (by omega), if_pos (by omega), if_pos (by omega), B_size, if_pos (by omega), hx]
      unfold strings_Trim.f
      rw [if_pos ⟨by rw [B_size, List.length_drop, List.length_take]; omega, rfl⟩, Option.bind_some, B_data]
      have htl : (⟨(Lib.trimB ((t.take (hd8 i)).drop (4 * (i + 1))) 0).toArray⟩ : ByteArray).toList = Lib.trimB ((t.take (hd8 i)).drop (4 * (i + 1))) 0 := B_toList _
      rw [htl]
      have htn := trimB_nil ((t.take (hd8 i)).drop (4 * (i + 1)))
      generalize (t.take (hd8 i)).drop (4 * (i + 1)) = u at *
      by_cases hz : u.all (fun c => c == 0) = true
      · rw [htn.2 hz]
        have hb0 : (([] : List UInt8) != []) = false := rfl
        rw [hb0]
        rcases hj false with h | h
        · rw [h, if_neg (show ¬ (false = true) by decide), if_neg (show ¬ (200 < sumN zs ∨ u.all (fun c => c == 0) = false) by rintro (h' | h'); exact h200 h'; rw [hz] at h'; cases h')]
        · exact absurd h h200
      · have hne : (Lib.trimB u 0 != []) = true := bne_iff_ne.mpr (fun h => hz (htn.1 h))
        rw [hne]
        rcases hj true with h | h
        · rw [h, if_pos rfl, if_pos (Or.inr (by simpa using hz))]
        · exact absurd h h200
  | succ d ih =>
    intro k i hi hk
    obtain ⟨k, rfl⟩ : ∃ m, k = m + 1 := ⟨k - 1, by omega⟩
    simp only [impl_FrameGet.l0]
    have hsl := szs_length i (t.drop 4)
    have hle := sumN_le i (t.drop 4)
    have hnl := n4_lt ((t.drop 4).drop (4 * i))
    have ihh := ih k (i + 1) (by omega) (by omega)
    rw [szs_succ, sumN_app] at ihh
    have hf := fetch4 t (4 * (i + 1)) k (by omega) (by omega)
    have hdd : t.drop (4 * (i + 1)) = (t.drop 4).drop (4 * i) := by rw [List.drop_drop]; congr 1; omega
    rw [hdd] at hf
    generalize n4 ((t.drop 4).drop (4 * i)) = m at *
    have hap : intL (szs i (t.drop 4)) ++ [(m : Int)] = intL (szs i (t.drop 4) ++ [m]) := by simp [intL]
    have hil : (intL (szs i (t.drop 4))).length = i := by unfold intL; rw [List.length_map, hsl]
    have hil2 : (intL (szs i (t.drop 4) ++ [m])).length = i + 1 := by rw [← hap, List.length_append, hil]; rfl
    have hrd : rd (intL (szs i (t.drop 4) ++ [m])) (i : Int) = (m : Int) := by
      unfold rd
      rw [← hap, Int.toNat_natCast, List.getD_eq_getElem?_getD, List.getElem?_append_right (by omega), hil, Nat.sub_self]; rfl
    rw [if_pos (by omega), wrapM (a := (i : Int) + 1) (i + 1) (by omega) (by omega), wrapM (a := 4 * ((i + 1 : Nat) : Int)) (4 * (i + 1)) (by omega) (by omega), hf, Option.bind_some, hil, if_pos (by omega), Option.bind_some, hap, hil2, hrd, if_pos (by omega), if_pos (by omega), wrapM (a := ((sumN (szs i (t.drop 4)) : Nat) : Int) + (m : Int)) (sumN (szs i (t.drop 4)) + m) (by omega) (by omega)]
    exact ihh
theorem implFrameGet_f (t : List UInt8) (ht : t.length ≤ 1000000000) (k : Nat) (hk : 60 ≤ k) : impl_FrameGet.f k (B t) = some (frameG t) := by
  unfold impl_FrameGet.f frameG
  rw [B_size]
  by_cases c1 : t.length < 4
  · rw [if_pos (by omega), if_pos c1]
  · have hf := fetch4 t 0 k (by omega) (by omega)
    have h0 : ((0 : Nat) : Int) = 0 := rfl
    rw [h0, List.drop_zero] at hf
    have hn := n4_lt t
    rw [if_neg (by omega), if_neg c1, hf, Option.bind_some, wrapM (a := (n4 t : Int) + 1) (n4 t + 1) (by omega) (by omega)]
    by_cases c2 : 6 < n4 t + 1
    · rw [if_pos (by omega), if_pos c2]
    · rw [if_neg (by omega), if_neg c2]
      have hE := headE ⟨n4 t + 1, by omega⟩
      dsimp only at hE
      rw [hE]
      by_cases c3 : t.length < hd8 (n4 t + 1)
      · rw [if_pos (by omega), if_pos c3]
      · rw [if_neg (by omega), if_neg c3]
        have := implSizes t ht (n4 t + 1) (by omega) (by omega) (n4 t + 1) k 0 (by omega) (by omega)
        exact this
theorem specCut (t : List UInt8) (ht : t.length ≤ 1000000000) (n : Nat) (hn : n ≤ 6) : ∀ (d k i at_ : Nat) (acc : List ByteArray), i + d = n → d + 10 ≤ k → at_ + 8 * sumN (szs d (t.drop (4 + 4 * i))) ≤ t.length → acc.length + d ≤ 100 →
    spec_FrameGet.l1 k (B t) n acc at_ i = some (acc ++ (cutL (szs d (t.drop (4 + 4 * i))) (t.drop at_)).map B, ((at_ + 8 * sumN (szs d (t.drop (4 + 4 * i))) : Nat) : Int)) := by
  intro d
  induction d with
  | zero =>
    intro k i a acc hi hk _ _
    obtain ⟨k, rfl⟩ : ∃ m, k = m + 1 := ⟨k - 1, by omega⟩
    simp only [spec_FrameGet.l1]
    rw [if_neg (by omega)]
    simp [cutL, sumN, szs]
  | succ d ih =>
    intro k i a acc hi hk ha hacc
    obtain ⟨k, rfl⟩ : ∃ m, k = m + 1 := ⟨k - 1, by omega⟩
    simp only [spec_FrameGet.l1]
    have hg := get4 t (4 + 4 * i) k (by omega) (by omega)
    have hdd : (t.drop (4 + 4 * i)).drop 4 = t.drop (4 + 4 * (i + 1)) := by rw [List.drop_drop]; congr 1
    simp only [szs] at ha ⊢
    rw [hdd] at ha ⊢
    have ihh := fun a' acc' => ih k (i + 1) a' acc' (by omega) (by omega)
    generalize n4 (t.drop (4 + 4 * i)) = z at *
    generalize szs d (t.drop (4 + 4 * (i + 1))) = zs at *
    have hs : sumN (z :: zs) = z + sumN zs := rfl
    rw [hs] at ha
    have ih2 := ihh (a + 8 * z) (acc ++ [B ((t.drop a).take (8 * z))]) (by omega) (by rw [List.length_append, List.length_singleton]; omega)
    have hx : (B t).extract (a : Int).toNat ((a + 8 * z : Nat) : Int).toNat = B ((t.drop a).take (8 * z)) := by
      rw [Int.toNat_natCast, Int.toNat_natCast, B_extract, List.drop_take]; congr 2; omega
    rw [if_pos (by omega), wrapM (a := 4 * (i : Int)) (4 * i) (by omega) (by omega), wrapM (a := 4 + ((4 * i : Nat) : Int)) (4 + 4 * i) (by omega) (by omega), hg, Option.bind_some, wrapM (a := 8 * (z : Int)) (8 * z) (by omega) (by omega), wrapM (a := (a : Int) + ((8 * z : Nat) : Int)) (a + 8 * z) (by omega) (by omega), wrapM (a := (i : Int) + 1) (i + 1) (by omega) (by omega), B_size, hx]
    rw [if_pos (by omega), if_pos (by omega), if_pos (by omega), if_pos (by omega), ih2, hs]
    have e9 : a + 8 * z + 8 * sumN zs = a + 8 * (z + sumN zs) := by omega
    rw [e9]
    simp only [cutL, List.map_cons, List.drop_drop, List.append_assoc, List.singleton_append]
theorem specSizes (t : List UInt8) (ht : t.length ≤ 1000000000) (n : Nat) (hn : n ≤ 6) (hh : hd8 n ≤ t.length) : ∀ (d k i : Nat), i + d = n → d + 60 ≤ k →
    spec_FrameGet.l0 k (B t) [] n (hd8 n : Nat) (sumN (szs i (t.drop 4)) : Nat) i =
      some (if 200 < sumN (szs n (t.drop 4)) ∨ ((t.take (hd8 n)).drop (4 * (n + 1))).all (fun c => c == 0) = false then ([], -1)
        else if t.length < hd8 n + 8 * sumN (szs n (t.drop 4)) then ([], 0)
        else ((cutL (szs n (t.drop 4)) (t.drop (hd8 n))).map B, ((hd8 n + 8 * sumN (szs n (t.drop 4)) : Nat) : Int))) := by
  intro d
  induction d with
  | zero =>
    intro k i hi hk
    obtain rfl : i = n := by omega
    obtain ⟨k, rfl⟩ : ∃ m, k = m + 1 := ⟨k - 1, by omega⟩
    simp only [spec_FrameGet.l0]
    have hb : 4 * (i + 1) ≤ hd8 i ∧ hd8 i ≤ 40 := by unfold hd8; omega
    have hle := sumN_le i (t.drop 4)
    rw [if_neg (by omega)]
    by_cases h200 : 200 < sumN (szs i (t.drop 4))
    · rw [if_pos (by omega), if_pos (Or.inl h200)]
      obtain ⟨k, rfl⟩ : ∃ m, k = m + 1 := ⟨k - 1, by omega⟩
      simp only [spec_FrameGet.j2]
      rw [if_pos trivial]
    · have hx : (B t).extract ((4 * (i + 1) : Nat) : Int).toNat ((hd8 i : Nat) : Int).toNat = B ((t.take (hd8 i)).drop (4 * (i + 1))) := by
        rw [Int.toNat_natCast, Int.toNat_natCast, B_extract]
      have hul : ((t.take (hd8 i)).drop (4 * (i + 1))).length ≤ 40 := by rw [List.length_drop, List.length_take]; omega
      have hcut := fun k hk h => specCut t ht i hn i k 0 (hd8 i) [] (by omega) hk h (by simp; omega)
      have e0 : 4 + 4 * 0 = 4 := rfl
      rw [e0] at hcut
      rw [if_neg (by omega), wrapM (a := 4 * (i : Int)) (4 * i) (by omega) (by omega), wrapM (a := 4 + ((4 * i : Nat) : Int)) (4 * (i + 1)) (by omega) (by omega), if_pos (by omega), if_pos (by omega), B_size, if_pos (by omega), hx, l1Zero_f _ (by omega) k (by omega), Option.bind_some]
      generalize (t.take (hd8 i)).drop (4 * (i + 1)) = u at *
      generalize szs i (t.drop 4) = zs at *
      obtain ⟨k, rfl⟩ : ∃ m, k = m + 1 := ⟨k - 1, by omega⟩
      simp only [spec_FrameGet.j2]
      cases hz : u.all (fun c => c == 0) with
      | false =>
        rw [if_pos (show (!false) = true from rfl), if_pos (Or.inr rfl)]
      | true =>
        rw [if_neg (show ¬ (!true) = true by decide), if_neg (show ¬ (200 < sumN zs ∨ true = false) by rintro (h' | h'); exact h200 h'; cases h')]
        rw [wrapM (a := 8 * ((sumN zs : Nat) : Int)) (8 * sumN zs) (by omega) (by omega), wrapM (a := ((hd8 i : Nat) : Int) + ((8 * sumN zs : Nat) : Int)) (hd8 i + 8 * sumN zs) (by omega) (by omega), B_size]
        by_cases hc : t.length < hd8 i + 8 * sumN zs
        · rw [if_pos (by omega), if_pos hc]
        · rw [if_neg (by omega), if_neg hc]
          have := hcut k (by omega) (by omega)
          simp only [List.nil_append] at this
          exact this
  | succ d ih =>
    intro k i hi hk
    obtain ⟨k, rfl⟩ : ∃ m, k = m + 1 := ⟨k - 1, by omega⟩
    simp only [spec_FrameGet.l0]
    have hle := sumN_le i (t.drop 4)
    have hnl := n4_lt ((t.drop 4).drop (4 * i))
    have ihh := ih k (i + 1) (by omega) (by omega)
    rw [szs_succ, sumN_app] at ihh
    have hf := get4 t (4 + 4 * i) k (by omega) (by omega)
    have hdd : t.drop (4 + 4 * i) = (t.drop 4).drop (4 * i) := by rw [List.drop_drop]
    rw [hdd] at hf
    generalize n4 ((t.drop 4).drop (4 * i)) = m at *
    rw [if_pos (by omega), wrapM (a := 4 * (i : Int)) (4 * i) (by omega) (by omega), wrapM (a := 4 + ((4 * i : Nat) : Int)) (4 + 4 * i) (by omega) (by omega), hf, Option.bind_some, wrapM (a := ((sumN (szs i (t.drop 4)) : Nat) : Int) + (m : Int)) (sumN (szs i (t.drop 4)) + m) (by omega) (by omega), wrapM (a := (i : Int) + 1) (i + 1) (by omega) (by omega)]
    exact ihh
theorem headS : ∀ n : Fin 7, (Int.tmod (wrap64 (4 + (wrap64 (4 * ((n.1 : Nat) : Int))))) 8 = 0 ∧ wrap64 (4 + (wrap64 (4 * ((n.1 : Nat) : Int)))) = ((hd8 n.1 : Nat) : Int)) ∨ (¬ Int.tmod (wrap64 (4 + (wrap64 (4 * ((n.1 : Nat) : Int))))) 8 = 0 ∧ wrap64 ((wrap64 (4 + (wrap64 (4 * ((n.1 : Nat) : Int))))) + 4) = ((hd8 n.1 : Nat) : Int)) := by decide +kernel
theorem specFrameGet_f (t : List UInt8) (ht : t.length ≤ 1000000000) (k : Nat) (hk : 100 ≤ k) : spec_FrameGet.f k (B t) = some (frameG t) := by
  unfold spec_FrameGet.f frameG
  rw [Option.bind_some, B_size]
  by_cases c1 : t.length < 4
  · rw [if_pos (by omega), if_pos c1]
  · have hf := get4 t 0 k (by omega) (by omega)
    have h0 : ((0 : Nat) : Int) = 0 := rfl
    rw [h0, List.drop_zero] at hf
    have hn := n4_lt t
    rw [if_neg (by omega), if_neg c1, hf, Option.bind_some, wrapM (a := (n4 t : Int) + 1) (n4 t + 1) (by omega) (by omega)]
    by_cases c2 : 6 < n4 t + 1
    · rw [if_pos (by omega), if_pos c2]
    · rw [if_neg (by omega), if_neg c2]
      have hj : spec_FrameGet.j0 k (B t) [] ((n4 t + 1 : Nat) : Int) ((hd8 (n4 t + 1) : Nat) : Int) = some (if t.length < hd8 (n4 t + 1) then ([], 0)
          else if 200 < sumN (szs (n4 t + 1) (t.drop 4)) ∨ ((t.take (hd8 (n4 t + 1))).drop (4 * (n4 t + 2))).all (fun c => c == 0) = false then ([], -1)
          else if t.length < hd8 (n4 t + 1) + 8 * sumN (szs (n4 t + 1) (t.drop 4)) then ([], 0)
          else ((cutL (szs (n4 t + 1) (t.drop 4)) (t.drop (hd8 (n4 t + 1)))).map B, ((hd8 (n4 t + 1) + 8 * sumN (szs (n4 t + 1) (t.drop 4)) : Nat) : Int))) := by
        obtain ⟨k, rfl⟩ : ∃ m, k = m + 1 := ⟨k - 1, by omega⟩
        simp only [spec_FrameGet.j0]
        rw [B_size]
        by_cases c3 : t.length < hd8 (n4 t + 1)
        · rw [if_pos (by omega), if_pos c3]
        · rw [if_neg (by omega), if_neg c3]
          exact specSizes t ht (n4 t + 1) (by omega) (by omega) (n4 t + 1) k 0 (by omega) (by omega)
      rcases headS ⟨n4 t + 1, by omega⟩ with ⟨h1, h2⟩ | ⟨h1, h2⟩
      · dsimp only at h1 h2
        rw [if_pos h1, h2]; exact hj
      · dsimp only at h1 h2
        rw [if_neg h1, h2]; exact hj
end Go.Proofs.YteocobbddngllaaDoor.Lem
