/- A drawn schema with a fault now and then, walked. -/
import Derived.Test.YtjeipkfeihahdaaGreatDoorLibStep
import Derived.Test.YtjeipkfeihahdaaGreatDoorStubSch
namespace Go.Proofs.YtjeipkfeihahdaaGreatDoor
set_option linter.unusedVariables false
set_option linter.unusedSimpArgs false
open Go.RowKit Go.Proofs.YtjeipkfeihahdaaGreatDoor.P Go.Proofs.YtjeipkfeihahdaaGreatDoor.Lem Go.Proofs.YtjeipkfeihahdaaGreatDoorW.PrintWords Go.Proofs.YtjeipkfeihahdaaGreatDoorW.PrintLast Go.Proofs.YtjeipkfeihahdaaGreatDoorW.PrintMore
set_option maxHeartbeats 4000000 in
set_option maxRecDepth 100000 in
theorem anyx (w0 w : World) (g m : Nat) (hI : Rdr w0 w g m) (hB : Below w0.heap.size w0 w) (hm : m ≤ 600000) :
  Calls Tryz.prog 11 #[.pointer (some ⟨g, 0, none⟩)] w fun e w' => ∃ v0 v1 us0 us1, e = .returned (.agg #[v0, v1]) ∧ 1 ≤ us0.length ∧ us0.length ≤ 3 ∧ us1.length ≤ 2 ∧ kSx.R 42 w' w.heap.size (fun _ => True) v0 us0 ∧ kEx.R 70 w' w.heap.size (fun _ => True) v1 us1 ∧ Rdr w0 w' g (m + 210) ∧ Below w0.heap.size w0 w' ∧ KeepBut w w' g none := by
 have HI := Aside0.mk hI
 have HB := Aside0.mk hB
 clear hI hB
 go_enter Tryz.func11, Tryz.ntmps11
 go_upto_region 2 with (go_at_call 23; refine (schemax w0 _ g m (HI.out.below (below_alloc (Below.refl _ _) zSch)) (HB.out.trans ((below_alloc (Below.refl _ _) zSch).mono HB.out.size)) (by omega)).mono ?_; rintro e W1 ⟨v0, v1, us0, us1, rfl, hu1, hu2, hu3, hrs, hre, hI, hb, hk⟩; obtain ⟨g0, c0, rfl⟩ := own_at hrs (by omega); obtain ⟨A1, c1, rfl⟩ := Kd.R_slice hre; have G2 := Aside0.mk (GS.any hI hb HB.out.size hk HI.out.lt hrs hre); clear hI hb hk hrs hre)
 obtain ⟨S, hS⟩ : ∃ S, S = W1.heap.size := ⟨_, rfl⟩
 obtain ⟨R, hR⟩ : ∃ R, R = w.heap.size := ⟨_, rfl⟩
 obtain ⟨W2, hW2⟩ : ∃ W2, W2 = W1.alloc (.cells #[.slice (some ⟨g0, 0, none⟩) us0.length c0, .slice A1 us1.length c1] 26) := ⟨_, rfl⟩
 rw [← hS, ← hR, ← hW2] at G2
 rw [← hS, ← hR, ← hW2]
 clear hS hR hW2 HI HB
 obtain ⟨n0, hn0⟩ : ∃ n, n = us0.length := ⟨_, rfl⟩
 rw [← hn0] at G2 hu1 hu2
 rw [← hn0]
 have HN0 := Aside0.mk hn0
 clear hn0
 have x2 : W2.cell? ⟨S, 0, none⟩ = some (.slice (some ⟨g0, 0, none⟩) n0 c0) := (blk_cell G2.out.bs 0).trans rfl
 go_upto_region 3 with (go_at_call 24; refine (pickx w0 W2 g (m + 200) n0 G2.out.rd G2.out.bw (by omega) (by omega)).mono ?_; rintro e W3 ⟨k, rfl, hk0, hk1, hI, hb, hk⟩; have G3 := Aside0.mk (G2.out.call hI hb hk); clear hI hb hk G2 x2)
 obtain ⟨k, rfl⟩ : ∃ q : Nat, k = (q : Int) := ⟨k.toNat, by omega⟩
 have hkn : k < n0 := by omega
 obtain ⟨nm, P, nd, cd, ud, _, hnd1, hnd2, hud, y0, y1, hD⟩ := G3.out.elem k hkn
 have HD := Aside0.mk hD
 clear hD
 have x3 : W3.cell? ⟨S, 0, none⟩ = some (.slice (some ⟨g0, 0, none⟩) n0 c0) := (blk_cell G3.out.bs 0).trans rfl
 go_upto_region 5 with (go_at_call 24; refine (pickx w0 W3 g (m + 200 + 1) 14 G3.out.rd G3.out.bw (by omega) (by omega)).mono ?_; rintro e W4 ⟨q, rfl, hq0, hq1, hI, hb, hk⟩; have HD4 := Aside0.mk (G3.out.rd.row HD.out (by decide) hk); have G4 := Aside0.mk (G3.out.call hI hb hk); clear hI hb hk HD y0 y1 x3)
 clear hk0 hk1 G3 hkn
 have hnd0 : (0 : Int) < (nd : Int) := by omega
 have hn00 : 0 < n0 := by omega
 by_cases h0 : q = 0
 ·subst h0
  go_wp2_with (first | ((with_reducible refine gate_dst (N := 25) rfl ?_); refine Kd.R_lit Kd.string _ 9 ?hg (N := 25) ?hd (xs := [(⟨#[]⟩ : ByteArray), (⟨#[57, 97]⟩ : ByteArray), (⟨#[102, 49]⟩ : ByteArray), (⟨#[111, 114]⟩ : ByteArray), (⟨#[116, 111, 111, 108, 111, 110, 103, 110, 97, 109, 101, 49]⟩ : ByteArray)]) (inner := [.string (⟨#[]⟩ : ByteArray), .string (⟨#[57, 97]⟩ : ByteArray), .string (⟨#[102, 49]⟩ : ByteArray), .string (⟨#[111, 114]⟩ : ByteArray), .string (⟨#[116, 111, 111, 108, 111, 110, 103, 110, 97, 109, 101, 49]⟩ : ByteArray)]) (ok := fun _ => True) (okp := fun _ => True) ?hr ?hp (fun _ hk => hk) trivial (Below.refl _ _) (Nat.le_refl _) (by simp) ?_; (case hd => rfl); (case hg => rfl); (case hr => first | (go_simp; done) | (go_simp; rfl)); (case hp => exact ((Reps.one rfl (Reps.one rfl (Reps.one rfl (Reps.one rfl (Reps.one rfl (Reps.none _ _)))))))); intro v10 W5 hR10 hb10 hg_ hnew_; obtain ⟨A10, c10, rfl⟩ := Kd.R_slice hR10; have G5 := Aside0.mk (G4.out.below hb10); have HD5 := Aside0.mk (Kd.R_below HD4.out hb10); have HR10 := Aside0.mk hR10; clear hR10 hb10 hg_ hnew_ G4 HD4) | (go_at_call 12; refine (ofx w0 W5 g (m + 200 + 1 + 1) A10 c10 [(⟨#[]⟩ : ByteArray), (⟨#[57, 97]⟩ : ByteArray), (⟨#[102, 49]⟩ : ByteArray), (⟨#[111, 114]⟩ : ByteArray), (⟨#[116, 111, 111, 108, 111, 110, 103, 110, 97, 109, 101, 49]⟩ : ByteArray)] G5.out.rd G5.out.bw (by omega) (by simp) (by simp) (Kd.R_reads' HR10.out).2.2 (Kd.R_reads' HR10.out).2.1 (far_slice (G5.out.rd.ne HR10.out (by decide)))).mono ?_; rintro e W6 ⟨sx, rfl, hsx, hI, hb, hk⟩; have HS := Aside0.mk (show sx.size ≤ 20 from by simp only [List.mem_cons, List.not_mem_nil, or_false] at hsx; rcases hsx with rfl | rfl | rfl | rfl | rfl <;> decide); clear hsx; have HD6 := Aside0.mk (G5.out.rd.row HD5.out (by decide) hk); have G6 := Aside0.mk (G5.out.call hI hb hk); clear hI hb hk; obtain ⟨x, cur, hx, hcell, hP, hPb⟩ := field0 HD6.out (by omega); have t0 : W6.cell? ⟨P, 0, none⟩ = some (.string x.f0) := hcell 0 _ rfl; have tf := blk_frozen hP 0; have G7 := Aside0.mk (GS.store G6.out hP hPb (by decide) (fits0 sx HS.out)); have y0 : (W6.setCell ⟨P, 0, none⟩ (.string sx)).cell? ⟨S, 0, none⟩ = some (.slice (some ⟨g0, 0, none⟩) n0 c0) := (blk_cell G7.out.bs 0).trans rfl; have y1 : (W6.setCell ⟨P, 0, none⟩ (.string sx)).cell? ⟨S, 1, none⟩ = some (.slice A1 us1.length c1) := (blk_cell G7.out.bs 1).trans rfl; have y2 : (W6.setCell ⟨P, 0, none⟩ (.string sx)).cell? ⟨R, 0, none⟩ = some (.slice none 0 0) := (blk_cell G7.out.br 0).trans rfl; have y3 : (W6.setCell ⟨P, 0, none⟩ (.string sx)).cell? ⟨R, 1, none⟩ = some (.slice none 0 0) := (blk_cell G7.out.br 1).trans rfl; have y4 := blk_frozen G7.out.br 0; have y5 := blk_frozen G7.out.br 1))
  refine bodyPost_ret (results_cell_row rfl _ _ R 26 #[(.slice (some ⟨g0, 0, none⟩) n0 c0), (.slice A1 us1.length c1)] (0, 0) _ rfl (blk_put (blk_put G7.out.br 0 _ rfl) 1 _ rfl) Tryz.underlying26 rfl (by kernel_rfl)) rfl ?_
  obtain ⟨q1, q2, q3, q4, q5⟩ := G7.out.putR (.slice (some ⟨g0, 0, none⟩) n0 c0) (.slice A1 us1.length c1)
  have hn := HN0.out
  exact ⟨_, _, us0, us1, rfl, by first | omega | (simp; done) | (simp; omega), by first | omega | (simp; done) | (simp; omega), by first | omega | (simp; done) | (simp; omega), q1, q2, q3.le (by omega), q4, q5⟩
 by_cases h1 : q = 1
 ·subst h1
  go_wp2_with (first | ((with_reducible refine gate_dst (N := 33) rfl ?_); refine Kd.R_lit (Kd.int .i64) _ 3 ?hg (N := 33) ?hd (xs := ([-1, 9, 1] : List Int)) (inner := [.int .i64 (-1), .int .i64 9, .int .i64 1]) (ok := fun _ => True) (okp := fun _ => True) ?hr ?hp (fun _ hk => hk) trivial (Below.refl _ _) (Nat.le_refl _) (by simp) ?_; (case hd => rfl); (case hg => rfl); (case hr => first | (go_simp; done) | (go_simp; rfl)); (case hp => exact ((Reps.one (show Kd.M (Kd.int .i64) _ _ _ (-1) [.int .i64 (-1)] from rfl) (Reps.one (show Kd.M (Kd.int .i64) _ _ _ 9 [.int .i64 9] from rfl) (Reps.one (show Kd.M (Kd.int .i64) _ _ _ 1 [.int .i64 1] from rfl) (Reps.none _ _)))))); intro v10 W5 hR10 hb10 hg_ hnew_; obtain ⟨A10, c10, rfl⟩ := Kd.R_slice hR10; have G5 := Aside0.mk (G4.out.below hb10); have HD5 := Aside0.mk (Kd.R_below HD4.out hb10); have HR10 := Aside0.mk hR10; clear hR10 hb10 hg_ hnew_ G4 HD4) | (go_at_call 25; refine (onex w0 W5 g (m + 200 + 1 + 1) A10 c10 ([-1, 9, 1] : List Int) G5.out.rd G5.out.bw (by omega) (by simp) (by simp) (Kd.R_reads' HR10.out).2.2 (Kd.R_reads' HR10.out).2.1 (far_slice (G5.out.rd.ne HR10.out (by decide)))).mono ?_; rintro e W6 ⟨sx, rfl, hsx, hI, hb, hk⟩; have HS := Aside0.mk (show -1000000 ≤ sx ∧ sx ≤ 1000000 from by simp only [List.mem_cons, List.not_mem_nil, or_false] at hsx; omega); clear hsx; have HD6 := Aside0.mk (G5.out.rd.row HD5.out (by decide) hk); have G6 := Aside0.mk (G5.out.call hI hb hk); clear hI hb hk; obtain ⟨x, cur, hx, hcell, hP, hPb⟩ := field0 HD6.out (by omega); have t0 : W6.cell? ⟨P, 1, none⟩ = some (.int .i64 x.f1) := hcell 1 _ rfl; have tf := blk_frozen hP 1; have G7 := Aside0.mk (GS.store G6.out hP hPb (by decide) (fits1 sx HS.out)); have y0 : (W6.setCell ⟨P, 1, none⟩ (.int .i64 sx)).cell? ⟨S, 0, none⟩ = some (.slice (some ⟨g0, 0, none⟩) n0 c0) := (blk_cell G7.out.bs 0).trans rfl; have y1 : (W6.setCell ⟨P, 1, none⟩ (.int .i64 sx)).cell? ⟨S, 1, none⟩ = some (.slice A1 us1.length c1) := (blk_cell G7.out.bs 1).trans rfl; have y2 : (W6.setCell ⟨P, 1, none⟩ (.int .i64 sx)).cell? ⟨R, 0, none⟩ = some (.slice none 0 0) := (blk_cell G7.out.br 0).trans rfl; have y3 : (W6.setCell ⟨P, 1, none⟩ (.int .i64 sx)).cell? ⟨R, 1, none⟩ = some (.slice none 0 0) := (blk_cell G7.out.br 1).trans rfl; have y4 := blk_frozen G7.out.br 0; have y5 := blk_frozen G7.out.br 1))
  refine bodyPost_ret (results_cell_row rfl _ _ R 26 #[(.slice (some ⟨g0, 0, none⟩) n0 c0), (.slice A1 us1.length c1)] (0, 0) _ rfl (blk_put (blk_put G7.out.br 0 _ rfl) 1 _ rfl) Tryz.underlying26 rfl (by kernel_rfl)) rfl ?_
  obtain ⟨q1, q2, q3, q4, q5⟩ := G7.out.putR (.slice (some ⟨g0, 0, none⟩) n0 c0) (.slice A1 us1.length c1)
  have hn := HN0.out
  exact ⟨_, _, us0, us1, rfl, by first | omega | (simp; done) | (simp; omega), by first | omega | (simp; done) | (simp; omega), by first | omega | (simp; done) | (simp; omega), q1, q2, q3.le (by omega), q4, q5⟩
 by_cases h2 : q = 2
 ·subst h2
  go_wp2_with (first | ((with_reducible refine gate_dst (N := 41) rfl ?_); refine Kd.R_lit Kd.string _ 9 ?hg (N := 41) ?hd (xs := [(⟨#[78, 111, 110, 101]⟩ : ByteArray), (⟨#[77, 97, 105, 110]⟩ : ByteArray), (⟨#[76, 105, 115, 116]⟩ : ByteArray), (⟨#[]⟩ : ByteArray)]) (inner := [.string (⟨#[78, 111, 110, 101]⟩ : ByteArray), .string (⟨#[77, 97, 105, 110]⟩ : ByteArray), .string (⟨#[76, 105, 115, 116]⟩ : ByteArray), .string (⟨#[]⟩ : ByteArray)]) (ok := fun _ => True) (okp := fun _ => True) ?hr ?hp (fun _ hk => hk) trivial (Below.refl _ _) (Nat.le_refl _) (by simp) ?_; (case hd => rfl); (case hg => rfl); (case hr => first | (go_simp; done) | (go_simp; rfl)); (case hp => exact ((Reps.one rfl (Reps.one rfl (Reps.one rfl (Reps.one rfl (Reps.none _ _))))))); intro v10 W5 hR10 hb10 hg_ hnew_; obtain ⟨A10, c10, rfl⟩ := Kd.R_slice hR10; have G5 := Aside0.mk (G4.out.below hb10); have HD5 := Aside0.mk (Kd.R_below HD4.out hb10); have HR10 := Aside0.mk hR10; clear hR10 hb10 hg_ hnew_ G4 HD4) | (go_at_call 12; refine (ofx w0 W5 g (m + 200 + 1 + 1) A10 c10 [(⟨#[78, 111, 110, 101]⟩ : ByteArray), (⟨#[77, 97, 105, 110]⟩ : ByteArray), (⟨#[76, 105, 115, 116]⟩ : ByteArray), (⟨#[]⟩ : ByteArray)] G5.out.rd G5.out.bw (by omega) (by simp) (by simp) (Kd.R_reads' HR10.out).2.2 (Kd.R_reads' HR10.out).2.1 (far_slice (G5.out.rd.ne HR10.out (by decide)))).mono ?_; rintro e W6 ⟨sx, rfl, hsx, hI, hb, hk⟩; have HS := Aside0.mk (show sx.size ≤ 20 from by simp only [List.mem_cons, List.not_mem_nil, or_false] at hsx; rcases hsx with rfl | rfl | rfl | rfl <;> decide); clear hsx; have HD6 := Aside0.mk (G5.out.rd.row HD5.out (by decide) hk); have G6 := Aside0.mk (G5.out.call hI hb hk); clear hI hb hk; obtain ⟨x, cur, hx, hcell, hP, hPb⟩ := field0 HD6.out (by omega); have t0 : W6.cell? ⟨P, 2, none⟩ = some (.string x.f2.f0) := hcell 2 _ rfl; have tf := blk_frozen hP 2; have G7 := Aside0.mk (GS.store G6.out hP hPb (by decide) (fits2 sx HS.out)); have y0 : (W6.setCell ⟨P, 2, none⟩ (.string sx)).cell? ⟨S, 0, none⟩ = some (.slice (some ⟨g0, 0, none⟩) n0 c0) := (blk_cell G7.out.bs 0).trans rfl; have y1 : (W6.setCell ⟨P, 2, none⟩ (.string sx)).cell? ⟨S, 1, none⟩ = some (.slice A1 us1.length c1) := (blk_cell G7.out.bs 1).trans rfl; have y2 : (W6.setCell ⟨P, 2, none⟩ (.string sx)).cell? ⟨R, 0, none⟩ = some (.slice none 0 0) := (blk_cell G7.out.br 0).trans rfl; have y3 : (W6.setCell ⟨P, 2, none⟩ (.string sx)).cell? ⟨R, 1, none⟩ = some (.slice none 0 0) := (blk_cell G7.out.br 1).trans rfl; have y4 := blk_frozen G7.out.br 0; have y5 := blk_frozen G7.out.br 1))
  refine bodyPost_ret (results_cell_row rfl _ _ R 26 #[(.slice (some ⟨g0, 0, none⟩) n0 c0), (.slice A1 us1.length c1)] (0, 0) _ rfl (blk_put (blk_put G7.out.br 0 _ rfl) 1 _ rfl) Tryz.underlying26 rfl (by kernel_rfl)) rfl ?_
  obtain ⟨q1, q2, q3, q4, q5⟩ := G7.out.putR (.slice (some ⟨g0, 0, none⟩) n0 c0) (.slice A1 us1.length c1)
  have hn := HN0.out
  exact ⟨_, _, us0, us1, rfl, by first | omega | (simp; done) | (simp; omega), by first | omega | (simp; done) | (simp; omega), by first | omega | (simp; done) | (simp; omega), q1, q2, q3.le (by omega), q4, q5⟩
 by_cases h3 : q = 3
 ·subst h3
  go_wp2_with (first | ((with_reducible refine gate_dst (N := 50) rfl ?_); refine Kd.R_lit (Kd.int .i64) _ 3 ?hg (N := 50) ?hd (xs := ([-1, 256, 70000] : List Int)) (inner := [.int .i64 (-1), .int .i64 256, .int .i64 70000]) (ok := fun _ => True) (okp := fun _ => True) ?hr ?hp (fun _ hk => hk) trivial (Below.refl _ _) (Nat.le_refl _) (by simp) ?_; (case hd => rfl); (case hg => rfl); (case hr => first | (go_simp; done) | (go_simp; rfl)); (case hp => exact ((Reps.one (show Kd.M (Kd.int .i64) _ _ _ (-1) [.int .i64 (-1)] from rfl) (Reps.one (show Kd.M (Kd.int .i64) _ _ _ 256 [.int .i64 256] from rfl) (Reps.one (show Kd.M (Kd.int .i64) _ _ _ 70000 [.int .i64 70000] from rfl) (Reps.none _ _)))))); intro v10 W5 hR10 hb10 hg_ hnew_; obtain ⟨A10, c10, rfl⟩ := Kd.R_slice hR10; have G5 := Aside0.mk (G4.out.below hb10); have HD5 := Aside0.mk (Kd.R_below HD4.out hb10); have HR10 := Aside0.mk hR10; clear hR10 hb10 hg_ hnew_ G4 HD4) | (go_at_call 25; refine (onex w0 W5 g (m + 200 + 1 + 1) A10 c10 ([-1, 256, 70000] : List Int) G5.out.rd G5.out.bw (by omega) (by simp) (by simp) (Kd.R_reads' HR10.out).2.2 (Kd.R_reads' HR10.out).2.1 (far_slice (G5.out.rd.ne HR10.out (by decide)))).mono ?_; rintro e W6 ⟨sx, rfl, hsx, hI, hb, hk⟩; have HS := Aside0.mk (show -1000000 ≤ sx ∧ sx ≤ 1000000 from by simp only [List.mem_cons, List.not_mem_nil, or_false] at hsx; omega); clear hsx; have HD6 := Aside0.mk (G5.out.rd.row HD5.out (by decide) hk); have G6 := Aside0.mk (G5.out.call hI hb hk); clear hI hb hk; obtain ⟨x, cur, hx, hcell, hP, hPb⟩ := field0 HD6.out (by omega); have t0 : W6.cell? ⟨P, 5, none⟩ = some (.int .i64 x.f4) := hcell 5 _ rfl; have tf := blk_frozen hP 5; have G7 := Aside0.mk (GS.store G6.out hP hPb (by decide) (fits5 sx HS.out)); have y0 : (W6.setCell ⟨P, 5, none⟩ (.int .i64 sx)).cell? ⟨S, 0, none⟩ = some (.slice (some ⟨g0, 0, none⟩) n0 c0) := (blk_cell G7.out.bs 0).trans rfl; have y1 : (W6.setCell ⟨P, 5, none⟩ (.int .i64 sx)).cell? ⟨S, 1, none⟩ = some (.slice A1 us1.length c1) := (blk_cell G7.out.bs 1).trans rfl; have y2 : (W6.setCell ⟨P, 5, none⟩ (.int .i64 sx)).cell? ⟨R, 0, none⟩ = some (.slice none 0 0) := (blk_cell G7.out.br 0).trans rfl; have y3 : (W6.setCell ⟨P, 5, none⟩ (.int .i64 sx)).cell? ⟨R, 1, none⟩ = some (.slice none 0 0) := (blk_cell G7.out.br 1).trans rfl; have y4 := blk_frozen G7.out.br 0; have y5 := blk_frozen G7.out.br 1))
  refine bodyPost_ret (results_cell_row rfl _ _ R 26 #[(.slice (some ⟨g0, 0, none⟩) n0 c0), (.slice A1 us1.length c1)] (0, 0) _ rfl (blk_put (blk_put G7.out.br 0 _ rfl) 1 _ rfl) Tryz.underlying26 rfl (by kernel_rfl)) rfl ?_
  obtain ⟨q1, q2, q3, q4, q5⟩ := G7.out.putR (.slice (some ⟨g0, 0, none⟩) n0 c0) (.slice A1 us1.length c1)
  have hn := HN0.out
  exact ⟨_, _, us0, us1, rfl, by first | omega | (simp; done) | (simp; omega), by first | omega | (simp; done) | (simp; omega), by first | omega | (simp; done) | (simp; omega), q1, q2, q3.le (by omega), q4, q5⟩
 by_cases h4 : q = 4
 ·subst h4
  obtain ⟨nm0, P0, nd0, cd0, ud0, hnm0, hn1, hn2, hud0, z0, z1, hD0⟩ := G4.out.elem 0 (by omega)
  have G5 := Aside0.mk (GS.below G4.out (below_drew1 (Below.refl _ _)))
  have HNM := Aside0.mk hnm0
  have HD0 := Aside0.mk (Kd.R_below hD0 (below_drew1 (Below.refl _ _)))
  clear hD0 hnm0 HD4
  go_upto_region 14 with fail
  have x5 := (blk_cell G5.out.bs 0).trans rfl
  have x50 := pw_cell_below (below_drew1 (Below.refl _ _)) z0
  have x51 := pw_cell_below (below_drew1 (Below.refl _ _)) z1
  refine start_ (n := 10) (S := fun w' => w'.cell? ⟨S, 0, none⟩ = some (.slice (some ⟨g0, 0, none⟩) n0 c0) ∧ w'.cell? ⟨g0, 0, none⟩ = some (.string nm0) ∧ w'.cell? ⟨g0, 1, none⟩ = some (.slice (some ⟨P0, 0, none⟩) nd0 cd0)) (ds := [7, 9]) #[false, false, false, false, false, false, false, false, false, false] (by kernel_rfl) rfl rfl ⟨x5, x50, x51⟩ (fun hHeld => ?_)
  refine pu_ 0 (some 56) rfl ?_
  refine pu_ 2 (some 58) rfl ?_
  refine tk_ 1 (some 57) rfl hHeld ?_
  refine tk_ 3 (some 59) rfl hHeld ?_
  refine pu_ 4 (some 60) rfl ?_
  refine tk_ 5 (some 61) rfl hHeld ?_
  refine on_ 6 (some 62) rfl (fun K hK => ?_)
  refine va_ ?_
  refine hK.out _ _ ⟨pw_cell_below (below_alloc (Below.refl _ _) _) hHeld.1, pw_cell_below (below_alloc (Below.refl _ _) _) hHeld.2.1, pw_cell_below (below_alloc (Below.refl _ _) _) hHeld.2.2⟩ (fun hHeld => ?_)
  clear hK K
  refine no_ 62 ?_
  refine la_ 7 (some 63) rfl (fun K hK => ?_)
  refine struct_append (by rfl) (.tmp 57) (.tmp 62) rfl (by first | rfl | (go_simp; done) | (go_simp; rfl)) (by first | rfl | (go_simp; done) | (go_simp; rfl)) G5.out (nm := nm0) HNM.out HD0.out (by omega) (by omega) (by have := HN0.out; omega) ?_
  intro v7 W7 hG7 hb7
  obtain ⟨A7, n7, c7, rfl⟩ : ∃ A n c, v7 = Value.slice A n c := by obtain ⟨A, c, e⟩ := Kd.R_slice hG7.rs; exact ⟨A, _, c, e⟩
  have G7 := Aside0.mk hG7
  have G8 := Aside0.mk (hG7.put0 (.slice A7 n7 c7))
  have x7 := (blk_cell G7.out.bs 0).trans rfl
  have f7 := blk_frozen G7.out.bs 0
  clear hG7 hb7 hHeld
  refine hK.out _ _ ?_
  clear hK K
  refine no_ 63 ?_
  refine pu_ 8 (some 64) rfl ?_
  refine la_ 9 none rfl (fun K hK => ?_)
  refine sk_ ?_
  refine hK.out _ _ ?_
  clear hK K
  refine done_ (by kernel_rfl) ?_
  have y0 : (W7.setCell ⟨S, 0, none⟩ (.slice A7 n7 c7)).cell? ⟨S, 0, none⟩ = some (.slice A7 n7 c7) := (blk_cell G8.out.bs 0).trans rfl
  have y1 : (W7.setCell ⟨S, 0, none⟩ (.slice A7 n7 c7)).cell? ⟨S, 1, none⟩ = some (.slice A1 us1.length c1) := (blk_cell G8.out.bs 1).trans rfl
  have y2 : (W7.setCell ⟨S, 0, none⟩ (.slice A7 n7 c7)).cell? ⟨R, 0, none⟩ = some (.slice none 0 0) := (blk_cell G8.out.br 0).trans rfl
  have y3 : (W7.setCell ⟨S, 0, none⟩ (.slice A7 n7 c7)).cell? ⟨R, 1, none⟩ = some (.slice none 0 0) := (blk_cell G8.out.br 1).trans rfl
  have y4 := blk_frozen G8.out.br 0
  have y5 := blk_frozen G8.out.br 1
  clear x7 f7 x5 x50 x51
  go_wp2_with fail
  refine bodyPost_ret (results_cell_row rfl _ _ R 26 #[(.slice A7 n7 c7), (.slice A1 us1.length c1)] (0, 0) _ rfl (blk_put (blk_put G8.out.br 0 _ rfl) 1 _ rfl) Tryz.underlying26 rfl (by kernel_rfl)) rfl ?_
  obtain ⟨q1, q2, q3, q4, q5⟩ := G8.out.putR (.slice A7 n7 c7) (.slice A1 us1.length c1)
  have hn := HN0.out
  exact ⟨_, _, (us0 ++ [()]), us1, rfl, by first | omega | (simp; done) | (simp; omega), by first | omega | (simp; done) | (simp; omega), by first | omega | (simp; done) | (simp; omega), q1, q2, q3.le (by omega), q4, q5⟩
 by_cases h5 : q = 5
 ·subst h5
  obtain ⟨mm, hmm⟩ : ∃ mm, mm = m + 200 + 1 + 1 := ⟨_, rfl⟩
  rw [← hmm] at G4
  clear HD4
  go_upto_region 16 with fail
  obtain ⟨W5, hW5⟩ : ∃ W5, W5 = W4 := ⟨_, rfl⟩
  have GF := Aside0.mk (GS.below G4.out (below_drew1 (Below.refl _ _)))
  rw [← hW5] at GF ⊢
  clear hW5 G4
  have x5 := (blk_cell GF.out.bs 1).trans rfl
  refine start_ (n := 14) (S := fun w' => w'.cell? ⟨S, 1, none⟩ = some (.slice A1 us1.length c1)) (ds := [11, 13]) #[false, false, false, false, false, false, false, false, false, false, false, false, false, false] (by kernel_rfl) rfl rfl (x5) (fun hHeld => ?_)
  refine pu_ 0 (some 67) rfl ?_
  refine pu_ 2 (some 69) rfl ?_
  refine pu_ 5 (some 72) rfl ?_
  refine t1_ 1 (some 68) rfl hHeld ?_
  refine join_ (σ := Nat × ByteArray × Nat) 7 #[true, true, true, true, true, true, true, false, false, false, false, false, false, false] (fun s => [(70, .slice (some ⟨s.1, 0, none⟩) 3 3), (71, .string s.2.1), (73, .slice (some ⟨s.2.2, 0, none⟩) 3 3)]) (fun s w' => GS w0 w w' g (mm + 1) S R (.slice (some ⟨g0, 0, none⟩) n0 c0) (.slice A1 us1.length c1) (.slice (some ⟨g0, 0, none⟩) n0 c0) (.slice A1 us1.length c1) (.slice none 0 0) us0 us1 [] ∧ Kd.string.C w' (some ⟨s.2.2, 0, none⟩) 3 [(⟨#[97]⟩ : ByteArray), (⟨#[98]⟩ : ByteArray), (⟨#[57]⟩ : ByteArray)] ∧ s.2.2 ≠ g ∧ s.2.1.size ≤ 20) ?_ ?_
  rotate_left
  ·intro hCont
   refine two_ (i := 3) (j := 6) (Ni := some 70) (Nj := some 73) #[true, true, true, true, false, true, false, false, false, false, false, false, false, false] #[true, true, true, false, false, true, true, false, false, false, false, false, false, false] rfl rfl rfl rfl (by kernel_rfl) (by decide) (by decide) (fun K hK => ?_) (fun K hK => ?_)
   ·skip
    refine va_ ?_
    have HC3 := Aside0.mk (by have h := lit3d W5 (⟨#[77, 97, 105, 110]⟩ : ByteArray) (⟨#[79, 100, 100]⟩ : ByteArray) (⟨#[85, 56]⟩ : ByteArray); exact h)
    have HG3 := Aside0.mk (by have h : W5.heap.size ≠ g := Nat.ne_of_gt GF.out.rd.lt; exact h)
    have GF := Aside0.mk (GF.out.belowd (.cells #[.string (⟨#[77, 97, 105, 110]⟩ : ByteArray), .string (⟨#[79, 100, 100]⟩ : ByteArray), .string (⟨#[85, 56]⟩ : ByteArray)] 9))
    refine hK.out _ _ ((blk_cell GF.out.bs 1).trans rfl) (fun hHeld => ?_)
    clear hK K
    refine no_ 70 ?_
    refine two_ (i := 4) (j := 6) (Ni := some 71) (Nj := some 73) #[true, true, true, true, true, true, false, false, false, false, false, false, false, false] #[true, true, true, true, false, true, true, false, false, false, false, false, false, false] rfl rfl rfl rfl (by kernel_rfl) (by decide) (by decide) (fun K hK => ?_) (fun K hK => ?_)
    ·skip
     refine goes_ Tryz.func12 (by kernel_rfl) rfl #[.pointer (some ⟨g, 0, none⟩), .slice (some ⟨W5.heap.size, 0, none⟩) 3 3] (by rfl) rfl rfl (by simp only [List.map_toArray, List.map_cons, List.map_nil]; rfl) ?_
     with_reducible refine (ofx3 w0 _ g mm _ 3 (⟨#[77, 97, 105, 110]⟩ : ByteArray) (⟨#[79, 100, 100]⟩ : ByteArray) (⟨#[85, 56]⟩ : ByteArray) GF.out.rd GF.out.bw (by omega) HC3.out (by decide) HG3.out).mono ?_
     rintro e W6 ⟨s4, rfl, hs4, hI, hb, hk⟩
     refine ⟨_, rfl, ?_⟩
     have GF := Aside0.mk (GS.call GF.out hI hb hk)
     have HS4 := Aside0.mk (show s4.size ≤ 20 from by simp only [List.mem_cons, List.not_mem_nil, or_false] at hs4; rcases hs4 with rfl | rfl | rfl <;> decide)
     clear hI hb hk hs4
     refine hK.out _ _ ((blk_cell GF.out.bs 1).trans rfl) (fun hHeld => ?_)
     clear hK K
     refine no_ 71 ?_
     refine on_ 6 (some 73) rfl (fun K hK => ?_)
     refine va_ ?_
     have HC6 := Aside0.mk (lit3 W6 (⟨#[97]⟩ : ByteArray) (⟨#[98]⟩ : ByteArray) (⟨#[57]⟩ : ByteArray))
     have HG6 := Aside0.mk (Nat.ne_of_gt GF.out.rd.lt)
     have GF := Aside0.mk (GS.below GF.out (below_alloc (Below.refl _ _) (.cells #[.string (⟨#[97]⟩ : ByteArray), .string (⟨#[98]⟩ : ByteArray), .string (⟨#[57]⟩ : ByteArray)] 9)))
     refine hK.out _ _ ((blk_cell GF.out.bs 1).trans rfl) (fun hHeld => ?_)
     clear hK K
     refine no_ 73 ?_
     exact norm_ (by simp only [putAll, Act.put, List.setIfInBounds_toArray, List.set_cons_zero, List.set_cons_succ]) (hCont (W5.heap.size, s4, W6.heap.size) _ ⟨GF.out, HC6.out, HG6.out, HS4.out⟩)
    ·skip
     refine va_ ?_
     have HC3 := Aside0.mk (C_belowd HC3.out (.cells #[.string (⟨#[97]⟩ : ByteArray), .string (⟨#[98]⟩ : ByteArray), .string (⟨#[57]⟩ : ByteArray)] 9))
     have HC6 := Aside0.mk (by have h := lit3d (W5.alloc (.cells #[.string (⟨#[77, 97, 105, 110]⟩ : ByteArray), .string (⟨#[79, 100, 100]⟩ : ByteArray), .string (⟨#[85, 56]⟩ : ByteArray)] 9)) (⟨#[97]⟩ : ByteArray) (⟨#[98]⟩ : ByteArray) (⟨#[57]⟩ : ByteArray); rw [World.size_alloc] at h; exact h)
     have HG6 := Aside0.mk (by have h : (W5.alloc (.cells #[.string (⟨#[77, 97, 105, 110]⟩ : ByteArray), .string (⟨#[79, 100, 100]⟩ : ByteArray), .string (⟨#[85, 56]⟩ : ByteArray)] 9)).heap.size ≠ g := Nat.ne_of_gt GF.out.rd.lt; rw [World.size_alloc] at h; exact h)
     have GF := Aside0.mk (GF.out.belowd (.cells #[.string (⟨#[97]⟩ : ByteArray), .string (⟨#[98]⟩ : ByteArray), .string (⟨#[57]⟩ : ByteArray)] 9))
     refine hK.out _ _ ((blk_cell GF.out.bs 1).trans rfl) (fun hHeld => ?_)
     clear hK K
     refine no_ 73 ?_
     refine on_ 4 (some 71) rfl (fun K hK => ?_)
     refine goes_ Tryz.func12 (by kernel_rfl) rfl #[.pointer (some ⟨g, 0, none⟩), .slice (some ⟨W5.heap.size, 0, none⟩) 3 3] (by rfl) rfl rfl (by simp only [List.map_toArray, List.map_cons, List.map_nil]; rfl) ?_
     with_reducible refine (ofx3 w0 _ g mm _ 3 (⟨#[77, 97, 105, 110]⟩ : ByteArray) (⟨#[79, 100, 100]⟩ : ByteArray) (⟨#[85, 56]⟩ : ByteArray) GF.out.rd GF.out.bw (by omega) HC3.out (by decide) HG3.out).mono ?_
     rintro e W6 ⟨s4, rfl, hs4, hI, hb, hk⟩
     refine ⟨_, rfl, ?_⟩
     have HC6 := Aside0.mk (Kd.C_keep (⟨#[]⟩ : ByteArray) HC6.out hk (fun ad he _ => by cases he; exact HG6.out))
     have GF := Aside0.mk (GS.call GF.out hI hb hk)
     have HS4 := Aside0.mk (show s4.size ≤ 20 from by simp only [List.mem_cons, List.not_mem_nil, or_false] at hs4; rcases hs4 with rfl | rfl | rfl <;> decide)
     clear hI hb hk hs4
     refine hK.out _ _ ((blk_cell GF.out.bs 1).trans rfl) (fun hHeld => ?_)
     clear hK K
     refine no_ 71 ?_
     exact norm_ (by simp only [putAll, Act.put, List.setIfInBounds_toArray, List.set_cons_zero, List.set_cons_succ]) (hCont (W5.heap.size, s4, W5.heap.size + 1) _ ⟨GF.out, HC6.out, HG6.out, HS4.out⟩)
   ·skip
    refine va_ ?_
    have HC6 := Aside0.mk (by have h := lit3d W5 (⟨#[97]⟩ : ByteArray) (⟨#[98]⟩ : ByteArray) (⟨#[57]⟩ : ByteArray); exact h)
    have HG6 := Aside0.mk (by have h : W5.heap.size ≠ g := Nat.ne_of_gt GF.out.rd.lt; exact h)
    have GF := Aside0.mk (GF.out.belowd (.cells #[.string (⟨#[97]⟩ : ByteArray), .string (⟨#[98]⟩ : ByteArray), .string (⟨#[57]⟩ : ByteArray)] 9))
    refine hK.out _ _ ((blk_cell GF.out.bs 1).trans rfl) (fun hHeld => ?_)
    clear hK K
    refine no_ 73 ?_
    refine on_ 3 (some 70) rfl (fun K hK => ?_)
    refine va_ ?_
    have HC6 := Aside0.mk (C_belowd HC6.out (.cells #[.string (⟨#[77, 97, 105, 110]⟩ : ByteArray), .string (⟨#[79, 100, 100]⟩ : ByteArray), .string (⟨#[85, 56]⟩ : ByteArray)] 9))
    have HC3 := Aside0.mk (by have h := lit3d (W5.alloc (.cells #[.string (⟨#[97]⟩ : ByteArray), .string (⟨#[98]⟩ : ByteArray), .string (⟨#[57]⟩ : ByteArray)] 9)) (⟨#[77, 97, 105, 110]⟩ : ByteArray) (⟨#[79, 100, 100]⟩ : ByteArray) (⟨#[85, 56]⟩ : ByteArray); rw [World.size_alloc] at h; exact h)
    have HG3 := Aside0.mk (by have h : (W5.alloc (.cells #[.string (⟨#[97]⟩ : ByteArray), .string (⟨#[98]⟩ : ByteArray), .string (⟨#[57]⟩ : ByteArray)] 9)).heap.size ≠ g := Nat.ne_of_gt GF.out.rd.lt; rw [World.size_alloc] at h; exact h)
    have GF := Aside0.mk (GF.out.belowd (.cells #[.string (⟨#[77, 97, 105, 110]⟩ : ByteArray), .string (⟨#[79, 100, 100]⟩ : ByteArray), .string (⟨#[85, 56]⟩ : ByteArray)] 9))
    refine hK.out _ _ ((blk_cell GF.out.bs 1).trans rfl) (fun hHeld => ?_)
    clear hK K
    refine no_ 70 ?_
    refine on_ 4 (some 71) rfl (fun K hK => ?_)
    refine goes_ Tryz.func12 (by kernel_rfl) rfl #[.pointer (some ⟨g, 0, none⟩), .slice (some ⟨(W5.heap.size + 1), 0, none⟩) 3 3] (by rfl) rfl rfl (by simp only [List.map_toArray, List.map_cons, List.map_nil]; rfl) ?_
    with_reducible refine (ofx3 w0 _ g mm _ 3 (⟨#[77, 97, 105, 110]⟩ : ByteArray) (⟨#[79, 100, 100]⟩ : ByteArray) (⟨#[85, 56]⟩ : ByteArray) GF.out.rd GF.out.bw (by omega) HC3.out (by decide) HG3.out).mono ?_
    rintro e W6 ⟨s4, rfl, hs4, hI, hb, hk⟩
    refine ⟨_, rfl, ?_⟩
    have HC6 := Aside0.mk (Kd.C_keep (⟨#[]⟩ : ByteArray) HC6.out hk (fun ad he _ => by cases he; exact HG6.out))
    have GF := Aside0.mk (GS.call GF.out hI hb hk)
    have HS4 := Aside0.mk (show s4.size ≤ 20 from by simp only [List.mem_cons, List.not_mem_nil, or_false] at hs4; rcases hs4 with rfl | rfl | rfl <;> decide)
    clear hI hb hk hs4
    refine hK.out _ _ ((blk_cell GF.out.bs 1).trans rfl) (fun hHeld => ?_)
    clear hK K
    refine no_ 71 ?_
    exact norm_ (by simp only [putAll, Act.put, List.setIfInBounds_toArray, List.set_cons_zero, List.set_cons_succ]) (hCont (W5.heap.size + 1, s4, W5.heap.size) _ ⟨GF.out, HC6.out, HG6.out, HS4.out⟩)
  rintro ⟨g3, s4, g6⟩ W8 ⟨hG8, hC6, hg6, hs4⟩
  have G8 := Aside0.mk hG8
  have HC6 := Aside0.mk (show Kd.string.C W8 (some ⟨g6, 0, none⟩) 3 [(⟨#[97]⟩ : ByteArray), (⟨#[98]⟩ : ByteArray), (⟨#[57]⟩ : ByteArray)] from hC6)
  have HG6 := Aside0.mk (show g6 ≠ g from hg6)
  have HS4 := Aside0.mk (show s4.size ≤ 20 from hs4)
  clear hG8 hC6 hg6 hs4
  have hHeld : W8.cell? ⟨S, 1, none⟩ = some (.slice A1 us1.length c1) := (blk_cell G8.out.bs 1).trans rfl
  refine norm_ (a' := ?_) ?_ ?_
  rotate_left
  ·simp only [putAll, Act.put, List.setIfInBounds_toArray, List.set_cons_zero, List.set_cons_succ]
   rfl
  refine on_ 7 (some 74) rfl (fun K hK => ?_)
  refine goes_ Tryz.func12 (by kernel_rfl) rfl #[.pointer (some ⟨g, 0, none⟩), .slice (some ⟨g6, 0, none⟩) 3 3] (by rfl) rfl rfl (by simp only [List.map_toArray, List.map_cons, List.map_nil]; rfl) ?_
  with_reducible refine (ofx3 w0 _ g (mm + 1) _ 3 (⟨#[97]⟩ : ByteArray) (⟨#[98]⟩ : ByteArray) (⟨#[57]⟩ : ByteArray) G8.out.rd G8.out.bw (by omega) HC6.out (by decide) HG6.out).mono ?_
  rintro e W9 ⟨s7, rfl, hs7, hI, hb, hk⟩
  refine ⟨_, rfl, ?_⟩
  have G9 := Aside0.mk (GS.call G8.out hI hb hk)
  have HS7 := Aside0.mk (show s7.size ≤ 20 from by simp only [List.mem_cons, List.not_mem_nil, or_false] at hs7; rcases hs7 with rfl | rfl | rfl <;> decide)
  clear hI hb hk hs7
  refine hK.out _ _ ((blk_cell G9.out.bs 1).trans rfl) (fun hHeld => ?_)
  clear hK K
  refine no_ 74 ?_
  refine on_ 8 (some 75) rfl (fun K hK => ?_)
  refine va_ ?_
  have HR10 := Aside0.mk (Kd.R_lower (own2 W9 (fun k => some k ≠ (Value.slice none 0 0).ownBlock) (⟨#[97]⟩ : ByteArray) s7 (by simp [Value.ownBlock])) G9.out.kp.1)
  have G10 := Aside0.mk (GS.below G9.out (below_alloc (Below.refl _ _) (.cells #[.string (⟨#[97]⟩ : ByteArray), .string s7] 9)))
  refine hK.out _ _ ((blk_cell G10.out.bs 1).trans rfl) (fun hHeld => ?_)
  clear hK K
  refine no_ 75 ?_
  refine pu_ 9 (some 76) rfl ?_
  refine on_ 10 (some 77) rfl (fun K hK => ?_)
  refine va_ ?_
  refine hK.out _ _ (pw_cell_below (below_alloc (Below.refl _ _) _) hHeld) (fun hHeld => ?_)
  clear hK K
  refine no_ 77 ?_
  refine la_ 11 (some 78) rfl (fun K hK => ?_)
  refine enum_append_step (by rfl) (.tmp 68) (.tmp 77) rfl (by first | rfl | (go_simp; done) | (go_simp; rfl)) (by first | rfl | (go_simp; done) | (go_simp; rfl)) G10.out (nm := s4) ⟨HS4.out, by simp, fun x hx => by simp only [List.mem_cons, List.not_mem_nil, or_false] at hx; rcases hx with rfl | rfl; decide; exact HS7.out⟩ HR10.out (by omega) ?_
  intro v11 W11 hG11 hb11
  obtain ⟨A11, n11, c11, rfl⟩ : ∃ A n c, v11 = Value.slice A n c := by obtain ⟨A, c, e⟩ := Kd.R_slice hG11.re; exact ⟨A, _, c, e⟩
  have G11 := Aside0.mk hG11
  have G12 := Aside0.mk (hG11.put1 (.slice A11 n11 c11))
  have x11 := (blk_cell G11.out.bs 1).trans rfl
  have f11 := blk_frozen G11.out.bs 1
  clear hG11 hb11 hHeld
  refine hK.out _ _ ?_
  clear hK K
  refine no_ 78 ?_
  refine pu_ 12 (some 79) rfl ?_
  refine la_ 13 none rfl (fun K hK => ?_)
  refine sk_ ?_
  refine hK.out _ _ ?_
  clear hK K
  refine done_ (by kernel_rfl) ?_
  have y0 : (W11.setCell ⟨S, 1, none⟩ (.slice A11 n11 c11)).cell? ⟨S, 0, none⟩ = some (.slice (some ⟨g0, 0, none⟩) n0 c0) := (blk_cell G12.out.bs 0).trans rfl
  have y1 : (W11.setCell ⟨S, 1, none⟩ (.slice A11 n11 c11)).cell? ⟨S, 1, none⟩ = some (.slice A11 n11 c11) := (blk_cell G12.out.bs 1).trans rfl
  have y2 : (W11.setCell ⟨S, 1, none⟩ (.slice A11 n11 c11)).cell? ⟨R, 0, none⟩ = some (.slice none 0 0) := (blk_cell G12.out.br 0).trans rfl
  have y3 : (W11.setCell ⟨S, 1, none⟩ (.slice A11 n11 c11)).cell? ⟨R, 1, none⟩ = some (.slice none 0 0) := (blk_cell G12.out.br 1).trans rfl
  have y4 := blk_frozen G12.out.br 0
  have y5 := blk_frozen G12.out.br 1
  clear x11 f11 x5
  go_wp2_with fail
  refine bodyPost_ret (results_cell_row rfl _ _ R 26 #[(.slice (some ⟨g0, 0, none⟩) n0 c0), (.slice A11 n11 c11)] (0, 0) _ rfl (blk_put (blk_put G12.out.br 0 _ rfl) 1 _ rfl) Tryz.underlying26 rfl (by kernel_rfl)) rfl ?_
  obtain ⟨q1, q2, q3, q4, q5⟩ := G12.out.putR (.slice (some ⟨g0, 0, none⟩) n0 c0) (.slice A11 n11 c11)
  have hn := HN0.out
  exact ⟨_, _, us0, (us1 ++ [()]), rfl, by first | omega | (simp; done) | (simp; omega), by first | omega | (simp; done) | (simp; omega), by first | omega | (simp; done) | (simp; omega), q1, q2, q3.le (by omega), q4, q5⟩
 have y0 : W4.cell? ⟨S, 0, none⟩ = some (.slice (some ⟨g0, 0, none⟩) n0 c0) := (blk_cell G4.out.bs 0).trans rfl
 have y1 : W4.cell? ⟨S, 1, none⟩ = some (.slice A1 us1.length c1) := (blk_cell G4.out.bs 1).trans rfl
 have y2 : W4.cell? ⟨R, 0, none⟩ = some (.slice none 0 0) := (blk_cell G4.out.br 0).trans rfl
 have y3 : W4.cell? ⟨R, 1, none⟩ = some (.slice none 0 0) := (blk_cell G4.out.br 1).trans rfl
 have y4 := blk_frozen G4.out.br 0
 have y5 := blk_frozen G4.out.br 1
 go_wp2_with fail
 refine bodyPost_ret (results_cell_row rfl _ _ R 26 #[(.slice (some ⟨g0, 0, none⟩) n0 c0), (.slice A1 us1.length c1)] (0, 0) _ rfl (blk_put (blk_put G4.out.br 0 _ rfl) 1 _ rfl) Tryz.underlying26 rfl (by kernel_rfl)) rfl ?_
 obtain ⟨q1, q2, q3, q4, q5⟩ := G4.out.putR (.slice (some ⟨g0, 0, none⟩) n0 c0) (.slice A1 us1.length c1)
 have hn := HN0.out
 exact ⟨_, _, us0, us1, rfl, by first | omega | (simp; done) | (simp; omega), by first | omega | (simp; done) | (simp; omega), by first | omega | (simp; done) | (simp; omega), q1, q2, q3.le (by omega), q4, q5⟩
end Go.Proofs.YtjeipkfeihahdaaGreatDoor
