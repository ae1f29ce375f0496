/- The reader of a draw: what it picks, told only by its bounds. -/
import Derived.Test.YtjeipkfeihahdaaGreatDoorLemKx
import Derived.Test.YtjeipkfeihahdaaGreatDoorPxA
namespace Go.Proofs.YtjeipkfeihahdaaGreatDoor
set_option linter.unusedVariables false
set_option linter.unusedSimpArgs false
open Go.RowKit Go.Proofs.YtjeipkfeihahdaaGreatDoor.P Go.Proofs.YtjeipkfeihahdaaGreatDoor.Lem Go.Proofs.YtjeipkfeihahdaaGreatDoorW.PrintWords Go.Proofs.YtjeipkfeihahdaaGreatDoorW.PrintLast Go.Proofs.YtjeipkfeihahdaaGreatDoorW.PrintMore
/-- A reader at block g that has read at most m times. -/
def Rdr (w0 W : World) (g m : Nat) : Prop := ∃ b p, IsS65 w0 W g b p ∧ Bytes b ∧ 0 ≤ p ∧ p ≤ (m : Int)
theorem Rdr.le {w0 W : World} {g m m' : Nat} (h : Rdr w0 W g m) (hm : m ≤ m') : Rdr w0 W g m' := by
 obtain ⟨b, p, h1, h2, h3, h4⟩ := h
 exact ⟨b, p, h1, h2, h3, by omega⟩
theorem Rdr.below {w0 W W' : World} {g m : Nat} (h : Rdr w0 W g m) (hb : Below W.heap.size W W') : Rdr w0 W' g m := by
 obtain ⟨b, p, h1, h2⟩ := h
 exact ⟨b, p, h1.below hb, h2⟩
theorem Rdr.grown {w0 W W' : World} {g m : Nat} {row : Option Nat} (h : Rdr w0 W g m) (hb : W.grownBy W' row) (hne : some g ≠ row) : Rdr w0 W' g m := by
 obtain ⟨b, p, h1, h2⟩ := h
 exact ⟨b, p, h1.grown hb hne, h2⟩
theorem Rdr.far {w0 W : World} {g m : Nat} {p : Addr} (h : Rdr w0 W g m) (hne : g ≠ p.block) (u : Value) : Rdr w0 (W.setCell p u) g m := by
 obtain ⟨b, q, h1, h2⟩ := h
 exact ⟨b, q, h1.far hne u, h2⟩
theorem Rdr.lt {w0 W : World} {g m : Nat} (h : Rdr w0 W g m) : g < W.heap.size := by
 obtain ⟨b, q, h1, h2⟩ := h
 exact h1.lt
theorem Rdr.ge {w0 W : World} {g m : Nat} (h : Rdr w0 W g m) : w0.heap.size ≤ g := by
 obtain ⟨b, q, h1, h2⟩ := h
 exact h1.ge
theorem Rdr.blk {w0 W : World} {g m : Nat} (h : Rdr w0 W g m) : ∃ cs, W.heap[g]? = some (.cells cs 65 (0, 0)) := by
 obtain ⟨b, q, ⟨A0, c0, h1, _⟩, _⟩ := h
 exact ⟨_, h1⟩
section
variable {α : Type} {d : Kd α} {e base g m : Nat} {w0 W W' : World} {ok : Nat → Prop} {v : Value} {xs : List α}
theorem Rdr.row (h : Rdr w0 W g m) (hR : d.R e W base ok v xs) (ht : ∀ q, q ∈ e :: d.E → q ≠ 65) (hk : KeepBut W W' g none) : d.R e W' base ok v xs := by
 obtain ⟨cs, hb⟩ := h.blk
 exact Kd.R_mono (Kd.R_keep (Kd.R_types hR hb ht) hk (fun _ h => h.2)) (fun _ h => h.1)
theorem Rdr.ne (h : Rdr w0 W g m) (hR : d.R e W base ok v xs) (ht : e ≠ 65) : some g ≠ v.ownBlock := by
 obtain ⟨cs, hb⟩ := h.blk
 exact Kd.R_ne hR hb ht
end
theorem pickx (w0 w : World) (g m : Nat) (n : Int) (hI : Rdr w0 w g m) (hB : Below w0.heap.size w0 w) (hm : m ≤ 900000) (hn : 1 ≤ n) :
  Calls Tryz.prog 24 #[.pointer (some ⟨g, 0, none⟩), .int .i64 n] w fun e w' => ∃ v : Int, e = .returned (.int .i64 v) ∧ 0 ≤ v ∧ v < n ∧ Rdr w0 w' g (m + 1) ∧ Below w0.heap.size w0 w' ∧ KeepBut w w' g none := by
 obtain ⟨b, p, hS, hb, hp0, hp1⟩ := hI
 obtain ⟨v, hv, h0, h1⟩ := pick_f 1 b p n (Nat.le_refl _) hb hp0 (by omega)
 refine (spec_l1Rd_pick.calls 1 g b p n v (p + 1) w0 w hS hB hv).mono ?_
 rintro e w' ⟨rfl, h2, h3, h4⟩
 exact ⟨v, rfl, h0, h1 hn, ⟨b, p + 1, h2, hb, by omega, by omega⟩, h3, h4⟩
theorem ofx (w0 w : World) (g m : Nat) (A : Option Addr) (c : Nat) (l : List ByteArray) (hI : Rdr w0 w g m) (hB : Below w0.heap.size w0 w) (hm : m ≤ 900000) (hl : l ≠ []) (hs : l.length ≤ 1000) (hA : Kd.C Kd.string w A l.length l) (hc : l.length ≤ c) (hf : ∀ ad, A = some ad → 0 < l.length → ad.block ≠ g) :
  Calls Tryz.prog 12 #[.pointer (some ⟨g, 0, none⟩), .slice A l.length c] w fun e w' => ∃ s : ByteArray, e = .returned (.string s) ∧ s ∈ l ∧ Rdr w0 w' g (m + 1) ∧ Below w0.heap.size w0 w' ∧ KeepBut w w' g none := by
 obtain ⟨b, p, hS, hb, hp0, hp1⟩ := hI
 obtain ⟨s, hsl, hv⟩ := of_f 1 b p l hl hs (Nat.le_refl _) hb hp0 (by omega)
 refine (spec_l1Rd_of.calls 1 g b p A c l s (p + 1) w0 w hS hB hA hc hf hv).mono ?_
 rintro e w' ⟨rfl, h2, h3, h4⟩
 exact ⟨s, rfl, hsl, ⟨b, p + 1, h2, hb, by omega, by omega⟩, h3, h4⟩
theorem onex (w0 w : World) (g m : Nat) (A : Option Addr) (c : Nat) (l : List Int) (hI : Rdr w0 w g m) (hB : Below w0.heap.size w0 w) (hm : m ≤ 900000) (hl : l ≠ []) (hs : l.length ≤ 1000) (hA : Kd.C (Kd.int .i64) w A l.length l) (hc : l.length ≤ c) (hf : ∀ ad, A = some ad → 0 < l.length → ad.block ≠ g) :
  Calls Tryz.prog 25 #[.pointer (some ⟨g, 0, none⟩), .slice A l.length c] w fun e w' => ∃ s : Int, e = .returned (.int .i64 s) ∧ s ∈ l ∧ Rdr w0 w' g (m + 1) ∧ Below w0.heap.size w0 w' ∧ KeepBut w w' g none := by
 obtain ⟨b, p, hS, hb, hp0, hp1⟩ := hI
 obtain ⟨s, hsl, hv⟩ := one_f 1 b p l hl hs (Nat.le_refl _) hb hp0 (by omega)
 refine (spec_l1Rd_one.calls 1 g b p A c l s (p + 1) w0 w hS hB hA hc hf hv).mono ?_
 rintro e w' ⟨rfl, h2, h3, h4⟩
 exact ⟨s, rfl, hsl, ⟨b, p + 1, h2, hb, by omega, by omega⟩, h3, h4⟩
/-- A digit. -/
theorem decx (n : Nat) (hn : n ≤ 9) (w : World) :
  Calls Tryz.prog 60 #[.int .i64 n] w fun e w' => ∃ s : ByteArray, e = .returned (.string s) ∧ s.size = 1 ∧ Below w.heap.size w w' := by
 have hf : ∃ s : ByteArray, spec_l1Dec.f 1 (n : Int) = some s ∧ s.size = 1 := by
  simp only [spec_l1Dec.f]
  rw [if_neg (by omega), if_neg (by omega), if_pos (by omega)]
  exact ⟨_, rfl, rfl⟩
 obtain ⟨s, hs, h1⟩ := hf
 refine (spec_l1Dec.calls 1 (n : Int) s w hs).mono ?_
 rintro e w' ⟨rfl, hb⟩
 exact ⟨s, rfl, h1, hb⟩
end Go.Proofs.YtjeipkfeihahdaaGreatDoor
