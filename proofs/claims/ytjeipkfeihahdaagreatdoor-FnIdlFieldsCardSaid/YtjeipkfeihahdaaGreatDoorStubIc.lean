/- What it means that a schema is fine: the parts of it. -/
import Derived.Test.YtjeipkfeihahdaaGreatDoorLemSpec
namespace Go.Proofs.YtjeipkfeihahdaaGreatDoor
set_option linter.unusedVariables false
set_option linter.unusedSimpArgs false
open Go.RowKit Go.Proofs.YtjeipkfeihahdaaGreatDoor.P Go.Proofs.YtjeipkfeihahdaaGreatDoor.Lem Go.Proofs.YtjeipkfeihahdaaGreatDoorW.PrintWords Go.Proofs.YtjeipkfeihahdaaGreatDoorW.PrintLast Go.Proofs.YtjeipkfeihahdaaGreatDoorW.PrintMore
theorem ic_zero (l0 : List SS) (l1 : List SE) (h : IC l0 l1 = 0) : formedF l0 l1 = true ∧ onceF l0 l1 = true ∧ allD l0 (sizeOk l0 l1) = true ∧ ordF l0 = true ∧ allD l0 (mayOk l0 l1) = true := by
 unfold IC at h
 cases h1 : formedF l0 l1
 ·rw [h1, if_pos rfl] at h; omega
 cases h2 : onceF l0 l1
 ·rw [h1, h2, if_neg (by decide), if_pos rfl] at h; omega
 cases h3 : allD l0 (sizeOk l0 l1)
 ·rw [h1, h2, if_neg (by decide), if_neg (by decide), if_pos h3] at h; omega
 cases h4 : ordF l0
 ·rw [h1, h2, if_neg (by decide), if_neg (by decide), if_neg (by rw [h3]; decide), h4, if_pos rfl] at h; omega
 cases h5 : allD l0 (mayOk l0 l1)
 ·rw [h1, h2, if_neg (by decide), if_neg (by decide), if_neg (by rw [h3]; decide), h4, if_neg (by decide), if_pos h5] at h; omega
 exact ⟨rfl, rfl, rfl, rfl, rfl⟩
/-- The numbers of a struct's fields: from 0 on, each once. -/
theorem ords_perm (ds : List SD) (h : ordOne ds = true) : (ds.map (·.f1)).Perm ((List.range ds.length).map (fun i : Nat => (i : Int))) := by
 have hp := (ordSorted_perm ds).map (·.f1)
 have e : (ordSorted ds).map (·.f1) = (List.range ds.length).map (fun i : Nat => (i : Int)) := by
  apply List.ext_getElem
  ·simp [ordSorted_length]
  ·intro i h1 h2
   have hi : i < ds.length := by simpa [ordSorted_length] using h1
   unfold ordOne at h
   rw [List.all_eq_true] at h
   have := h i (List.mem_range.2 hi)
   rw [decide_eq_true_eq, List.getElem?_eq_getElem (by rw [ordSorted_length]; exact hi)] at this
   simpa using this
 rw [← e]
 exact hp.symm
theorem ords_ne (ds : List SD) (h : ordOne ds = true) (i j : Nat) (hij : i < j) (hj : j < ds.length) : ds[i].f1 ≠ ds[j].f1 := by
 have hn : (ds.map (·.f1)).Nodup := by
  rw [(ords_perm ds h).nodup_iff]
  refine List.pairwise_map.2 ((List.nodup_range).imp (fun hab => ?_))
  omega
 have := (List.pairwise_iff_getElem.1 hn) i j (by simp; omega) (by simpa using hj) hij
 simpa using this
section
variable {A0 A1 : Option Addr} {c0 c1 : Nat} {l0 : List SS} {l1 : List SE}
theorem spec_calls (w : World) (hS : Small l0 l1) (h : SchAt w A0 c0 l0 A1 c1 l1) : Calls Tryz.prog 16 #[schV A0 c0 l0 A1 c1 l1] w fun e w' => e = .returned (.int .i64 (IC l0 l1)) ∧ Below w.heap.size w w' := by
 obtain ⟨K, hK⟩ := specIdl_f l0 l1 hS
 exact (spec_IdlCheck.calls K A0 c0 l0 A1 c1 l1 _ w h.h0 h.b0 h.h1 h.b1 (hK K (Nat.le_refl _))).mono fun _ _ h => h
end
end Go.Proofs.YtjeipkfeihahdaaGreatDoor
