/- What the package's table of sizes holds, and the functions that read it: what they answer, and that the calls come to it. -/
import Derived.Test.YtjeipkfeihahdaaGreatDoorProg
import Derived.Test.YtjeipkfeihahdaaGreatDoorV2
namespace Go.Proofs.YtjeipkfeihahdaaGreatDoor
open Go.RowKit Go.Proofs.YtjeipkfeihahdaaGreatDoorW.PrintWords Go.Proofs.YtjeipkfeihahdaaGreatDoorW.PrintLast Go.Proofs.YtjeipkfeihahdaaGreatDoorW.PrintMore
/-- The table: how many bits a size has. -/
def sizeTab : List Int := [0, 1, 8, 16, 32, 64, 64]
/-- The sizes of the first six bases; 0 of others. -/
def baseSize (s : ByteArray) : Int := match s.data.toList with
 | [66, 111, 111, 108] => 1
 | [85, 56] => 2
 | [85, 49, 54] => 3
 | [85, 51, 50] => 4
 | [73, 54, 52] => 5
 | [84, 101, 120, 116] => 6
 | _ => 0
/-- The tables stand in memory. -/
structure SBw (w : World) : Prop where mk ::
 (out : ∀ i, i < 7 → w.cell? ⟨0, i, none⟩ = some (.int .i64 (sizeTab.getD i 0)))
 (base : ∃ bm, w.cell? ⟨1, 0, none⟩ = some (.map (some bm)) ∧ 1 < w.heap.size ∧ ∀ W, Below w.heap.size w W → ∀ s : ByteArray, s.size ≤ maxLen → (Instr.lookup 105 (.map (some bm)) (.string s) true).run Tryz.prog W = .ok (.tuple #[.int .i64 (baseSize s), .bool (baseSize s != 0)]) W)
theorem SBw.mv {w w1 : World} (h : SBw w) (hb : Below w.heap.size w w1) : SBw w1 := ⟨fun i hi => pw_cell_below hb (h.out i hi), by
 obtain ⟨bm, h1, h2, h3⟩ := h.base
 exact ⟨bm, pw_cell_below hb h1, Nat.lt_of_lt_of_le h2 hb.size, fun W hW s hs => h3 W (hb.trans (hW.mono hb.size)) s hs⟩⟩
theorem SBw.at_ {w : World} (h : SBw w) (n : Int) (h0 : 0 ≤ n) (h1 : n ≤ 6) : w.cell? ⟨0, n.toNat, none⟩ = some (.int .i64 (sizeTab.getD n.toNat 0)) := h.out n.toNat (by omega)
/-- How many bits a size has. -/
def bitsOf (n : Int) : Int := sizeTab.getD n.toNat 0
/-- A number fits a size. -/
def Fits (n size : Int) : Prop := (size = 6 ∧ n = 0) ∨ size = 5 ∨ (size ≤ 4 ∧ 0 ≤ n ∧ n ≤ 2 ^ (bitsOf size).toNat - 1)
instance (n size : Int) : Decidable (Fits n size) := inferInstanceAs (Decidable (_ ∨ _))
def impl_fits.f (a0 a1 : Int) : Option Bool := if 0 ≤ a1 ∧ a1 ≤ 6 then some (decide (Fits a0 a1)) else none
theorem ret_bool {a b : Bool} (h : a = b) : Ending.returned (.bool a) = Ending.returned (.bool b) := by rw [h]
theorem fits_low (n : Int) (size b m : Int) (hs : size ≤ 4) (hb : bitsOf size = b) (hm : (2 : Int) ^ b.toNat - 1 = m) : (decide (0 ≤ n ∧ n ≤ m)) = decide (Fits n size) := by
 rw [decide_eq_decide]
 unfold Fits
 rw [hb, hm]
 omega
theorem fits_case (size b m : Int) (hs : (size = 0 ∧ b = 0 ∧ m = 0) ∨ (size = 1 ∧ b = 1 ∧ m = 1) ∨ (size = 2 ∧ b = 8 ∧ m = 255) ∨ (size = 3 ∧ b = 16 ∧ m = 65535) ∨ (size = 4 ∧ b = 32 ∧ m = 4294967295)) :
  bitsOf size = b ∧ (2 : Int) ^ b.toNat - 1 = m ∧ size ≤ 4 := by
 rcases hs with ⟨rfl, rfl, rfl⟩ | ⟨rfl, rfl, rfl⟩ | ⟨rfl, rfl, rfl⟩ | ⟨rfl, rfl, rfl⟩ | ⟨rfl, rfl, rfl⟩ <;> exact ⟨rfl, rfl, by decide⟩
set_option maxHeartbeats 1000000 in
theorem impl_fits.calls (a0 a1 : Int) (r : Bool) (w : World) (hSB : SBw w) (h : impl_fits.f a0 a1 = some r) :
  Calls Tryz.prog 21 #[.int .i64 a0, .int .i64 a1] w fun e w' => e = .returned (.bool r) ∧ Drawn0 w w' := by
 unfold impl_fits.f at h
 by_cases hs : 0 ≤ a1 ∧ a1 ≤ 6
 ·rw [if_pos hs] at h
  have hr := Aside0.mk (Option.some.inj h)
  clear h
  rcases (by omega : a1 = 6 ∨ a1 = 5 ∨ (0 ≤ a1 ∧ a1 ≤ 4)) with rfl | rfl | hlow
  ·clear hSB
   have e : (a0 == 0) = r := by rw [← hr.out]; unfold Fits; by_cases h0 : a0 = 0 <;> simp [h0]
   have he := Aside0.mk e
   clear e hr
   go_enter Tryz.func21, Tryz.ntmps21
   go_wp2
   go_ret
   exact ⟨ret_bool he.out, Drawn0.refl _⟩
  ·have hc : w.cell? ⟨0, 5, none⟩ = some (.int .i64 64) := hSB.out 5 (by decide)
   clear hSB
   have e : true = r := by rw [← hr.out]; unfold Fits; simp
   have he := Aside0.mk e
   clear e hr
   go_enter Tryz.func21, Tryz.ntmps21
   go_wp2
   go_ret
   exact ⟨ret_bool he.out, Drawn0.refl _⟩
  ·obtain ⟨b, m, hbm⟩ : ∃ b m : Int, (a1 = 0 ∧ b = 0 ∧ m = 0) ∨ (a1 = 1 ∧ b = 1 ∧ m = 1) ∨ (a1 = 2 ∧ b = 8 ∧ m = 255) ∨ (a1 = 3 ∧ b = 16 ∧ m = 65535) ∨ (a1 = 4 ∧ b = 32 ∧ m = 4294967295) := by
    rcases (by omega : a1 = 0 ∨ a1 = 1 ∨ a1 = 2 ∨ a1 = 3 ∨ a1 = 4) with h | h | h | h | h
    ·exact ⟨0, 0, by omega⟩
    ·exact ⟨1, 1, by omega⟩
    ·exact ⟨8, 255, by omega⟩
    ·exact ⟨16, 65535, by omega⟩
    ·exact ⟨32, 4294967295, by omega⟩
   obtain ⟨f1, f2, f3⟩ := fits_case a1 b m hbm
   have e : decide (0 ≤ a0 ∧ a0 ≤ m) = r := by rw [← hr.out]; exact fits_low a0 a1 b m f3 f1 f2
   clear hr f1 f2 f3
   by_cases hn : 0 ≤ a0
   ·have he := Aside0.mk (show decide (a0 ≤ m) = r by rw [← e]; simp [hn])
    clear e
    rcases hbm with ⟨rfl, rfl, rfl⟩ | ⟨rfl, rfl, rfl⟩ | ⟨rfl, rfl, rfl⟩ | ⟨rfl, rfl, rfl⟩ | ⟨rfl, rfl, rfl⟩
    ·have hc : w.cell? ⟨0, 0, none⟩ = some (.int .i64 0) := hSB.out 0 (by decide)
     clear hSB
     go_enter Tryz.func21, Tryz.ntmps21
     go_wp2
     go_ret
     exact ⟨ret_bool he.out, Drawn0.refl _⟩
    ·have hc : w.cell? ⟨0, 1, none⟩ = some (.int .i64 1) := hSB.out 1 (by decide)
     clear hSB
     go_enter Tryz.func21, Tryz.ntmps21
     go_wp2
     go_ret
     exact ⟨ret_bool he.out, Drawn0.refl _⟩
    ·have hc : w.cell? ⟨0, 2, none⟩ = some (.int .i64 8) := hSB.out 2 (by decide)
     clear hSB
     go_enter Tryz.func21, Tryz.ntmps21
     go_wp2
     go_ret
     exact ⟨ret_bool he.out, Drawn0.refl _⟩
    ·have hc : w.cell? ⟨0, 3, none⟩ = some (.int .i64 16) := hSB.out 3 (by decide)
     clear hSB
     go_enter Tryz.func21, Tryz.ntmps21
     go_wp2
     go_ret
     exact ⟨ret_bool he.out, Drawn0.refl _⟩
    ·have hc : w.cell? ⟨0, 4, none⟩ = some (.int .i64 32) := hSB.out 4 (by decide)
     clear hSB
     go_enter Tryz.func21, Tryz.ntmps21
     go_wp2
     go_ret
     exact ⟨ret_bool he.out, Drawn0.refl _⟩
   ·have he := Aside0.mk (show false = r by rw [← e]; simp [hn])
    clear e
    rcases hbm with ⟨rfl, rfl, rfl⟩ | ⟨rfl, rfl, rfl⟩ | ⟨rfl, rfl, rfl⟩ | ⟨rfl, rfl, rfl⟩ | ⟨rfl, rfl, rfl⟩
    ·have hc : w.cell? ⟨0, 0, none⟩ = some (.int .i64 0) := hSB.out 0 (by decide)
     clear hSB
     go_enter Tryz.func21, Tryz.ntmps21
     go_wp2
     go_ret
     exact ⟨ret_bool he.out, Drawn0.refl _⟩
    ·have hc : w.cell? ⟨0, 1, none⟩ = some (.int .i64 1) := hSB.out 1 (by decide)
     clear hSB
     go_enter Tryz.func21, Tryz.ntmps21
     go_wp2
     go_ret
     exact ⟨ret_bool he.out, Drawn0.refl _⟩
    ·have hc : w.cell? ⟨0, 2, none⟩ = some (.int .i64 8) := hSB.out 2 (by decide)
     clear hSB
     go_enter Tryz.func21, Tryz.ntmps21
     go_wp2
     go_ret
     exact ⟨ret_bool he.out, Drawn0.refl _⟩
    ·have hc : w.cell? ⟨0, 3, none⟩ = some (.int .i64 16) := hSB.out 3 (by decide)
     clear hSB
     go_enter Tryz.func21, Tryz.ntmps21
     go_wp2
     go_ret
     exact ⟨ret_bool he.out, Drawn0.refl _⟩
    ·have hc : w.cell? ⟨0, 4, none⟩ = some (.int .i64 32) := hSB.out 4 (by decide)
     clear hSB
     go_enter Tryz.func21, Tryz.ntmps21
     go_wp2
     go_ret
     exact ⟨ret_bool he.out, Drawn0.refl _⟩
 ·rw [if_neg hs] at h
  cases h
end Go.Proofs.YtjeipkfeihahdaaGreatDoor
