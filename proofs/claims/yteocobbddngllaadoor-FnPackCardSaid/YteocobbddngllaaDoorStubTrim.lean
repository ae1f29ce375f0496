/- The program's trimmed: words without words of noughts at the end; what it answers, and that the call comes to it. -/
import Derived.Test.YteocobbddngllaaDoorShelf
import Derived.Test.YteocobbddngllaaDoorV2
import Derived.LoopTactic
namespace Go.Proofs.YteocobbddngllaaDoor
open Go.RowKit Go.Proofs.YteocobbddngllaaDoorW.PrintWords Go.Proofs.YteocobbddngllaaDoorW.PrintLast Go.Proofs.YteocobbddngllaaDoorW.PrintMore
/-- A word of noughts. -/
def zero8 : ByteArray := ⟨#[0, 0, 0, 0, 0, 0, 0, 0]⟩
def endsZero (s : ByteArray) : Bool := Lib.hasSuffix s.data.toList zero8.data.toList
def trimN : Nat → ByteArray → ByteArray
  | 0, s => s
  | n + 1, s => if endsZero s = true then trimN n (s.extract 0 (s.size - 8)) else s
def impl_trimmed.f (a0 : ByteArray) : Option ByteArray := if (a0.size : Int) ≤ 1000000000 then some (trimN a0.size a0) else none
theorem endsZero_size {s : ByteArray} (h : endsZero s = true) : 8 ≤ s.size := by
  unfold endsZero Lib.hasSuffix at h
  have h2 := (List.isSuffixOf_iff_suffix.1 h).length_le
  rw [data_length] at h2
  exact h2
theorem trimN_no (n : Nat) {s : ByteArray} (h : endsZero s = false) : trimN n s = s := by
  cases n with
  | zero => rfl
  | succ n => simp [trimN, h]
theorem impl_trimmed.calls (a0 : ByteArray) (r : ByteArray) (w : World) (h : impl_trimmed.f a0 = some r) :
    Calls Tryd.prog 57 #[.string a0] w fun e w' => e = .returned (.string r) ∧ Below w.heap.size w w' := by
  unfold impl_trimmed.f at h
  by_cases hs0 : (a0.size : Int) ≤ 1000000000
  · rw [if_pos hs0] at h
    have hs : a0.size ≤ 1000000000 := by omega
    clear hs0
    have hr := Aside0.mk (Option.some.inj h)
    clear h
    have hz : (⟨(Lib.repeatL (⟨#[0]⟩ : ByteArray).data.toList 8).toArray⟩ : ByteArray) = zero8 := by rfl
    have hrep := fun W => Tryd.strings_Repeat ⟨#[0]⟩ 8 W (by decide) (by decide)
    rw [hz] at hrep
    clear hz
    go_enter Tryd.func57, Tryd.ntmps57
    go_wp2_with (go_at_call 72; refine (hrep _).mono ?_; rintro e w1 ⟨rfl, hb⟩; clear hrep)
    have HB := Aside0.mk hb
    clear hb
    have hsuf : ∀ (x : ByteArray) (W : World), x.size ≤ 1000000000 → Calls Tryd.prog 73 #[.string x, .string zero8] W fun e w' => e = .returned (.bool (endsZero x)) ∧ w' = W := fun x W hx => Tryd.strings_HasSuffix x zero8 W (by omega)
    generalize zero8 = z at *
    go_loop [0] (fun v => ∃ (x : ByteArray) (n : Nat), v = .string x ∧ x.size ≤ n ∧ x.size ≤ 1000000000 ∧ Aside0 (trimN n x = r)) (fun v => match v with | .string x => x.size | _ => 0)
    case atStart => exact ⟨a0, a0.size, rfl, Nat.le_refl _, hs, hr⟩
    case round =>
      obtain ⟨x, n, rfl, hxn, hx, hT⟩ := hrel
      cases hq : endsZero x with
      | true =>
        have h8 := endsZero_size hq
        have hsuf' := fun W => hsuf x W hx
        rw [hq] at hsuf'
        clear hsuf
        have HQ := Aside0.mk hq
        clear hq
        go_wp2_with (go_at_call 73; refine (hsuf' _).mono ?_; rintro e w' ⟨rfl, rfl⟩)
        have hz : (x.extract 0 (x.size - 8)).size = x.size - 8 := by rw [ByteArray.size_extract]; omega
        obtain ⟨m, rfl⟩ : ∃ m, n = m + 1 := ⟨n - 1, by omega⟩
        refine ⟨⟨_, m, rfl, by omega, by omega, ⟨?_⟩⟩, ?_⟩
        · have h2 := hT.out
          simp only [trimN] at h2
          rw [if_pos HQ.out] at h2
          exact h2
        · show (x.extract 0 (x.size - 8)).size < x.size
          omega
      | false =>
        have hsuf' := fun W => hsuf x W hx
        rw [hq] at hsuf'
        clear hsuf
        have HQ := Aside0.mk hq
        clear hq
        go_wp2_with (go_at_call 73; refine (hsuf' _).mono ?_; rintro e w' ⟨rfl, rfl⟩)
        go_ret
        exact ⟨by rw [← hT.out, trimN_no n HQ.out]; rfl, HB.out⟩
  · rw [if_neg hs0] at h
    cases h
end Go.Proofs.YteocobbddngllaaDoor
