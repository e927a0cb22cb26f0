/- The contracts of clash on tickets that do not, of verdict where nothing is so, of the literal in Clash. Conditions stand in each theorem. -/
import Derived.Test.YtgdbnioodimlfaaSeq
import Derived.Test.YtgdbnioodimlfaaG
namespace Go.Proofs.Ytgdbnioodimlfaa.Wk
open Go.RowKit Go.Proofs.YtgdbnioodimlfaaW.PrintWords Go.Proofs.YtgdbnioodimlfaaW.PrintLast Go.Proofs.YtgdbnioodimlfaaW.PrintMore Go.Proofs.Ytgdbnioodimlfaa.PTopWashed Go.Proofs.Ytgdbnioodimlfaa.Sq
attribute [local go_sem] max2_int min2_int max_two min_two max_three min_three max_four min_four
set_option linter.unusedVariables false
set_option linter.unusedSimpArgs false

section
variable {A2 : Option Addr} {c2 : Nat} {A3 : Option Addr} {c3 : Nat} {A4 : Option Addr} {c4 : Nat} {cl : List S65} {ti : List S73} {cp : List S74}
theorem two_cells {w : World} {A : Option Addr} {l : List S74} (h : Kd.C k74 w A l.length l) (hl : l.length = 2) : ∃ ad, A = some ad ∧ w.cell? ad = some (.int .i64 (g74 l 0).f0) ∧ w.cell? ⟨ad.block, ad.off + 1, none⟩ = some (.int .i64 (g74 l 0).f1) ∧ w.cell? ⟨ad.block, ad.off + 2, none⟩ = some (.int .i64 (g74 l 0).f2) ∧
    w.cell? ⟨ad.block, ad.off + 3, none⟩ = some (.int .i64 (g74 l 1).f0) ∧ w.cell? ⟨ad.block, ad.off + 3 + 1, none⟩ = some (.int .i64 (g74 l 1).f1) ∧ w.cell? ⟨ad.block, ad.off + 3 + 2, none⟩ = some (.int .i64 (g74 l 1).f2) := by
  obtain ⟨ad, ee, x0, x1, x2⟩ := at74 h 1 (by omega)
  obtain ⟨ad2, ee2, y0, y1, y2⟩ := at74 h 0 (by omega)
  cases ee
  cases ee2
  rw [Nat.zero_mul, add_zero] at y0 y1 y2
  simp [Addr.add] at x0 x1 x2
  exact ⟨ad, rfl, y0, y1, y2, x0, x1, x2⟩
/-- Two tickets of which the one has no clips, or is of another tub, or went before the other one came. -/
def Apart (e0 e1 e2 e3 : Int) (ti : List S73) (cp : List S74) (i j : Nat) : Prop :=
  (g73 ti i).f0 ≠ (g73 ti j).f0 ∨ (ofL cp (i : Int)).length = 0 ∨ ((ofL cp (i : Int)).length = 2 ∧ (ofL cp (j : Int)).length = 2 ∧ tm e0 e1 e2 e3 (g74 (ofL cp (i : Int)) 1) ≤ tm e0 e1 e2 e3 (g74 (ofL cp (j : Int)) 0))

set_option maxHeartbeats 1000000 in
theorem clash_calls (hr gr e0 e1 e2 e3 : Int) (b i j : Nat) (w : World) (H : HouseIn w A2 c2 A3 c3 A4 c4 cl ti cp) (O : Okh hr gr cl ti cp) (hS : Small e0 e1 e2 e3) (W : WorkIn w b [.int .i64 hr, .int .i64 gr, .slice A2 cl.length c2, .slice A3 ti.length c3, .slice A4 cp.length c4] e0 e1 e2 e3) (hi : i < ti.length) (hj : j < ti.length) (hap : Apart e0 e1 e2 e3 ti cp i j) :
    Calls Try.prog 42 #[.pointer (some ⟨b, 0, none⟩), .agg #[.int .i64 e0, .int .i64 e1, .int .i64 e2, .int .i64 e3], .int .i64 (i : Int), .int .i64 (j : Int)] w fun e w' => e = .returned (.bool false) ∧ Below w.heap.size w w' := by
  have HI := Aside0.mk H
  have HO := Aside0.mk O
  have HS := Aside0.mk hS
  obtain ⟨gt, cap, mv, cs, hA, _⟩ := W.out
  simp only [List.cons_append, List.nil_append] at hA
  have HA := Aside0.mk hA
  clear hA H O hS W
  go_enter Try.func42, Try.ntmps42
  go_wp2
  refine wp_new1 fun w1 B1 HB HZ => ?_
  have hA1 := HA.out.below HB.out
  refine region_b [(0, 0), (1, 0), (2, 0), (3, 0), (4, 0), (6, 0), (7, 0), (8, 0), (9, 0), (10, 0), (5, 1), (11, 1), (12, 0), (13, 0)] (by kernel_rfl) rfl (by kernel_rfl) (by intro _ _ d _ _ h; cases d <;> exact h) ?_
  repeat (first | (refine seq_off (a' := ?_) rfl rfl ?_ ?_; rotate_left; (· simp only [List.getElem_toArray, List.getElem_cons_succ, List.getElem_cons_zero, Act.put, List.setIfInBounds_toArray, List.set_cons_zero, List.set_cons_succ, i64_w, i32_w]; rfl)) | (refine seq_read (v := ?_) (a' := ?_) rfl rfl (fun w' hS => ?_) ?_ ?_; rotate_left 2; (· have b1 := (B1.below hS).cl; have bb := (hA1.below hS).cl; go_simp; try with_reducible rfl); (· simp only [List.getElem_toArray, List.getElem_cons_succ, List.getElem_cons_zero, Act.put, List.setIfInBounds_toArray, List.set_cons_zero, List.set_cons_succ, i64_w, i32_w]; rfl)))
  refine seq_do rfl (fun hS => ?_)
  simp only [List.getElem_toArray, List.getElem_cons_succ, List.getElem_cons_zero]
  go_wp2_with (go_at_call 52; refine (of_calls hr gr (i : Int) _ (HI.out.below (below_then HB.out HB.out.size hS)) (by have := HO.out.n4; omega)).mono ?_; rintro e w3 ⟨Ai, ci, rfl, hlen, hC, hb⟩; have hS3 := below_step hS hb)
  refine ⟨hS3, ?_⟩
  have HC := Aside0.mk hC
  clear hS hC
  refine seq_do rfl (fun hS => ?_)
  simp only [List.getElem_toArray, List.getElem_cons_succ, List.getElem_cons_zero]
  go_wp2_with (go_at_call 52; refine (of_calls hr gr (j : Int) _ (HI.out.below (below_then HB.out HB.out.size hS)) (by have := HO.out.n4; omega)).mono ?_; rintro e w4 ⟨Aj, cj, rfl, hlenj, hCj, hb4⟩; have hS4 := below_step hS3 hb4)
  refine ⟨hS4, ?_⟩
  repeat (first | (refine seq_off (a' := ?_) rfl rfl ?_ ?_; rotate_left; (· simp only [List.getElem_toArray, List.getElem_cons_succ, List.getElem_cons_zero, Act.put, List.setIfInBounds_toArray, List.set_cons_zero, List.set_cons_succ, i64_w, i32_w]; rfl)) | (refine seq_read (v := ?_) (a' := ?_) rfl rfl (fun w' hS => ?_) ?_ ?_; rotate_left 2; (· have b1 := (B1.below hS).cl; have bb := (hA1.below hS).cl; go_simp; try with_reducible rfl); (· simp only [List.getElem_toArray, List.getElem_cons_succ, List.getElem_cons_zero, Act.put, List.setIfInBounds_toArray, List.set_cons_zero, List.set_cons_succ, i64_w, i32_w]; rfl)))
  refine seq_done ?_
  replace HC := Aside0.mk (Kd.C_below HC.out hb4)
  have HCj := Aside0.mk hCj
  replace B1 := B1.below hS4
  replace hA1 := hA1.below hS4
  replace HB := Aside0.mk (below_then HB.out HB.out.size hS4)
  clear hS hS4 hS3 hb4 hb hCj
  obtain ⟨adt, ee, x0, _⟩ := at73 (HI.out.below HB.out).r3 i hi
  obtain ⟨adt2, ee2, y0, _⟩ := at73 (HI.out.below HB.out).r3 j hj
  cases ee
  cases ee2
  have hii : (i : Int) < ti.length := by omega
  have hjj : (j : Int) < ti.length := by omega
  go_wp2
  rcases hap with hap | hap
  · have q1 : ((g73 ti i).f0 != (g73 ti j).f0) = true := by simpa using hap
    refine region_b [(0, 0), (1, 0), (2, 0), (3, 0), (4, 0), (5, 0), (6, 0), (7, 0), (8, 0), (9, 0), (10, 0), (11, 0), (12, 0), (13, 0), (14, 0), (15, 0), (16, 0), (17, 0), (18, 0), (19, 0), (20, 0), (21, 0), (22, 0), (23, 0), (24, 0), (25, 0), (26, 0), (27, 0), (28, 0)] (by kernel_rfl) rfl (by kernel_rfl) (by intro _ _ d _ _ h; cases d <;> exact h) ?_
    repeat (first | (refine seq_off (a' := ?_) rfl rfl ?_ ?_; rotate_left; (· simp only [List.getElem_toArray, List.getElem_cons_succ, List.getElem_cons_zero, Act.put, List.setIfInBounds_toArray, List.set_cons_zero, List.set_cons_succ, i64_w, i32_w]; rfl)) | (refine seq_read (v := ?_) (a' := ?_) rfl rfl (fun w' hS => ?_) ?_ ?_; rotate_left 2; (· have b1 := (B1.below hS).cl; have bb := (hA1.below hS).cl; have p0 := cell_b hS x0; have q0 := cell_b hS y0; go_simp; try with_reducible rfl); (· simp only [List.getElem_toArray, List.getElem_cons_succ, List.getElem_cons_zero, Act.put, List.setIfInBounds_toArray, List.set_cons_zero, List.set_cons_succ, i64_w, i32_w]; rfl)))
    refine seq_done ?_
    go_wp2
    go_ret
    exact ⟨rfl, HB.out.drew⟩
  by_cases htt : (g73 ti i).f0 = (g73 ti j).f0
  case neg =>
    have q1 : ((g73 ti i).f0 != (g73 ti j).f0) = true := by simpa using htt
    refine region_b [(0, 0), (1, 0), (2, 0), (3, 0), (4, 0), (5, 0), (6, 0), (7, 0), (8, 0), (9, 0), (10, 0), (11, 0), (12, 0), (13, 0), (14, 0), (15, 0), (16, 0), (17, 0), (18, 0), (19, 0), (20, 0), (21, 0), (22, 0), (23, 0), (24, 0), (25, 0), (26, 0), (27, 0), (28, 0)] (by kernel_rfl) rfl (by kernel_rfl) (by intro _ _ d _ _ h; cases d <;> exact h) ?_
    repeat (first | (refine seq_off (a' := ?_) rfl rfl ?_ ?_; rotate_left; (· simp only [List.getElem_toArray, List.getElem_cons_succ, List.getElem_cons_zero, Act.put, List.setIfInBounds_toArray, List.set_cons_zero, List.set_cons_succ, i64_w, i32_w]; rfl)) | (refine seq_read (v := ?_) (a' := ?_) rfl rfl (fun w' hS => ?_) ?_ ?_; rotate_left 2; (· have b1 := (B1.below hS).cl; have bb := (hA1.below hS).cl; have p0 := cell_b hS x0; have q0 := cell_b hS y0; go_simp; try with_reducible rfl); (· simp only [List.getElem_toArray, List.getElem_cons_succ, List.getElem_cons_zero, Act.put, List.setIfInBounds_toArray, List.set_cons_zero, List.set_cons_succ, i64_w, i32_w]; rfl)))
    refine seq_done ?_
    go_wp2
    go_ret
    exact ⟨rfl, HB.out.drew⟩
  have q1 : ((g73 ti i).f0 != (g73 ti j).f0) = false := by simpa using htt
  rcases hap with hap | ⟨hl2, hl2j, hle⟩
  · have q2 : (((ofL cp (i : Int)).length : Int) == 0) = true := by simp [hap]
    refine region_b [(0, 0), (1, 0), (2, 0), (3, 0), (4, 0), (5, 0), (6, 0), (7, 0), (8, 0), (9, 0), (10, 0), (11, 0), (12, 0), (13, 0), (14, 0), (15, 0), (16, 0), (17, 0), (18, 0), (19, 0), (20, 0), (21, 0), (22, 0), (23, 0), (24, 0), (25, 0), (26, 0), (27, 0), (28, 0)] (by kernel_rfl) rfl (by kernel_rfl) (by intro _ _ d _ _ h; cases d <;> exact h) ?_
    repeat (first | (refine seq_off (a' := ?_) rfl rfl ?_ ?_; rotate_left; (· simp only [List.getElem_toArray, List.getElem_cons_succ, List.getElem_cons_zero, Act.put, List.setIfInBounds_toArray, List.set_cons_zero, List.set_cons_succ, i64_w, i32_w]; rfl)) | (refine seq_read (v := ?_) (a' := ?_) rfl rfl (fun w' hS => ?_) ?_ ?_; rotate_left 2; (· have b1 := (B1.below hS).cl; have bb := (hA1.below hS).cl; have p0 := cell_b hS x0; have q0 := cell_b hS y0; go_simp; try with_reducible rfl); (· simp only [List.getElem_toArray, List.getElem_cons_succ, List.getElem_cons_zero, Act.put, List.setIfInBounds_toArray, List.set_cons_zero, List.set_cons_succ, i64_w, i32_w]; rfl)))
    refine seq_done ?_
    go_wp2
    go_ret
    exact ⟨rfl, HB.out.drew⟩
  · refine region_b [(0, 0), (1, 0), (2, 0), (3, 0), (4, 0), (5, 0), (6, 0), (7, 0), (8, 0), (9, 0), (10, 0), (11, 0), (12, 0), (13, 0), (14, 0), (15, 0), (16, 0), (17, 0), (18, 0), (19, 0), (20, 0), (21, 0), (22, 0), (23, 0), (24, 0), (25, 0), (26, 0), (27, 0), (28, 0)] (by kernel_rfl) rfl (by kernel_rfl) (by intro _ _ d _ _ h; cases d <;> exact h) ?_
    repeat (first | (refine seq_off (a' := ?_) rfl rfl ?_ ?_; rotate_left; (· simp only [List.getElem_toArray, List.getElem_cons_succ, List.getElem_cons_zero, Act.put, List.setIfInBounds_toArray, List.set_cons_zero, List.set_cons_succ, i64_w, i32_w]; rfl)) | (refine seq_read (v := ?_) (a' := ?_) rfl rfl (fun w' hS => ?_) ?_ ?_; rotate_left 2; (· have b1 := (B1.below hS).cl; have bb := (hA1.below hS).cl; have p0 := cell_b hS x0; have q0 := cell_b hS y0; go_simp; try with_reducible rfl); (· simp only [List.getElem_toArray, List.getElem_cons_succ, List.getElem_cons_zero, Act.put, List.setIfInBounds_toArray, List.set_cons_zero, List.set_cons_succ, i64_w, i32_w]; rfl)))
    refine seq_done ?_
    have HPi0 := Aside0.mk (of_cp HO.out (i : Int) 0 (by omega))
    have HPi1 := Aside0.mk (of_cp HO.out (i : Int) 1 (by omega))
    have HPj0 := Aside0.mk (of_cp HO.out (j : Int) 0 (by omega))
    have HPj1 := Aside0.mk (of_cp HO.out (j : Int) 1 (by omega))
    obtain ⟨ai, ee, u0, u1, u2, u3, u4, u5⟩ := two_cells HC.out hl2
    obtain ⟨aj, ee2, v0, v1, v2, v3, v4, v5⟩ := two_cells HCj.out hl2j
    cases ee
    cases ee2
    generalize g74 (ofL cp (i : Int)) 0 = xi at u0 u1 u2 HPi0
    generalize g74 (ofL cp (i : Int)) 1 = yi at u3 u4 u5 HPi1 hle
    generalize g74 (ofL cp (j : Int)) 0 = xj at v0 v1 v2 HPj0 hle
    generalize g74 (ofL cp (j : Int)) 1 = yj at v3 v4 v5 HPj1
    go_wp2
    have hd : Below w4.heap.size w4 w4.drew := (Below.refl _ _).drew
    replace B1 := B1.below hd
    replace HB := Aside0.mk (below_step HB.out hd)
    replace u0 := cell_b hd u0
    replace u1 := cell_b hd u1
    replace u2 := cell_b hd u2
    replace u3 := cell_b hd u3
    replace u4 := cell_b hd u4
    replace u5 := cell_b hd u5
    replace v0 := cell_b hd v0
    replace v1 := cell_b hd v1
    replace v2 := cell_b hd v2
    replace v3 := cell_b hd v3
    replace v4 := cell_b hd v4
    replace v5 := cell_b hd v5
    clear hd x0 y0 hA1
    generalize w4.drew = w5 at B1 HB u0 u1 u2 u3 u4 u5 v0 v1 v2 v3 v4 v5 ⊢
    have q5 : decide (tm e0 e1 e2 e3 xj < tm e0 e1 e2 e3 yi) = false := by simp; omega
    by_cases hlt : tm e0 e1 e2 e3 xi < tm e0 e1 e2 e3 yj
    · have q4 : decide (tm e0 e1 e2 e3 xi < tm e0 e1 e2 e3 yj) = true := by simp [hlt]
      refine region_b [(0, 0), (1, 0), (2, 0), (3, 0), (4, 0), (5, 0), (6, 0), (7, 0), (9, 0), (10, 0), (11, 0), (12, 0), (8, 1), (13, 1), (14, 0), (15, 0), (16, 0), (17, 0), (18, 0), (19, 0), (20, 0), (21, 0), (22, 0), (23, 0), (24, 0), (26, 0), (27, 0), (28, 0), (29, 0), (25, 1), (30, 1), (31, 0), (32, 0), (33, 0), (34, 0)] (by kernel_rfl) rfl (by kernel_rfl) (by intro _ _ d _ _ h; cases d <;> exact h) ?_
      repeat (first | (refine seq_off (a' := ?_) rfl rfl ?_ ?_; rotate_left; (· simp only [List.getElem_toArray, List.getElem_cons_succ, List.getElem_cons_zero, Act.put, List.setIfInBounds_toArray, List.set_cons_zero, List.set_cons_succ, i64_w, i32_w]; rfl)) | (refine seq_read (v := ?_) (a' := ?_) rfl rfl (fun w' hS => ?_) ?_ ?_; rotate_left 2; (· have b1 := (B1.below hS).cl; have pu0 := cell_b hS u0; have pu1 := cell_b hS u1; have pu2 := cell_b hS u2; have pu3 := cell_b hS u3; have pu4 := cell_b hS u4; have pu5 := cell_b hS u5; have pv0 := cell_b hS v0; have pv1 := cell_b hS v1; have pv2 := cell_b hS v2; have pv3 := cell_b hS v3; have pv4 := cell_b hS v4; have pv5 := cell_b hS v5; go_simp; try with_reducible rfl); (· simp only [List.getElem_toArray, List.getElem_cons_succ, List.getElem_cons_zero, Act.put, List.setIfInBounds_toArray, List.set_cons_zero, List.set_cons_succ, i64_w, i32_w]; rfl)))
      refine seq_do rfl (fun hS => ?_)
      simp only [List.getElem_toArray, List.getElem_cons_succ, List.getElem_cons_zero]
      go_wp2_with (go_at_call 53; refine (minuteT_calls e0 e1 e2 e3 xi _ HS.out HPi0.out.1 HPi0.out.2.1 HPi0.out.2.2.1 HPi0.out.2.2.2).mono ?_; rintro e w3 ⟨rfl, hb⟩; have hS3 := below_step hS hb)
      refine ⟨hS3, seq_at hS3 fun w8 hS4 => ?_⟩
      clear hS hS3 hb
      refine seq_do rfl (fun hS => ?_)
      simp only [List.getElem_toArray, List.getElem_cons_succ, List.getElem_cons_zero]
      go_wp2_with (go_at_call 53; refine (minuteT_calls e0 e1 e2 e3 yj _ HS.out HPj1.out.1 HPj1.out.2.1 HPj1.out.2.2.1 HPj1.out.2.2.2).mono ?_; rintro e w3 ⟨rfl, hb⟩; have hS3 := below_step hS hb)
      refine ⟨hS3, seq_at hS3 fun w8 hS4 => ?_⟩
      clear hS hS3 hb
      repeat (first | (refine seq_off (a' := ?_) rfl rfl ?_ ?_; rotate_left; (· simp only [List.getElem_toArray, List.getElem_cons_succ, List.getElem_cons_zero, Act.put, List.setIfInBounds_toArray, List.set_cons_zero, List.set_cons_succ, i64_w, i32_w]; rfl)) | (refine seq_read (v := ?_) (a' := ?_) rfl rfl (fun w' hS => ?_) ?_ ?_; rotate_left 2; (· have b1 := (B1.below hS).cl; have pu0 := cell_b hS u0; have pu1 := cell_b hS u1; have pu2 := cell_b hS u2; have pu3 := cell_b hS u3; have pu4 := cell_b hS u4; have pu5 := cell_b hS u5; have pv0 := cell_b hS v0; have pv1 := cell_b hS v1; have pv2 := cell_b hS v2; have pv3 := cell_b hS v3; have pv4 := cell_b hS v4; have pv5 := cell_b hS v5; go_simp; try with_reducible rfl); (· simp only [List.getElem_toArray, List.getElem_cons_succ, List.getElem_cons_zero, Act.put, List.setIfInBounds_toArray, List.set_cons_zero, List.set_cons_succ, i64_w, i32_w]; rfl)))
      refine seq_do rfl (fun hS => ?_)
      simp only [List.getElem_toArray, List.getElem_cons_succ, List.getElem_cons_zero]
      go_wp2_with (go_at_call 53; refine (minuteT_calls e0 e1 e2 e3 xj _ HS.out HPj0.out.1 HPj0.out.2.1 HPj0.out.2.2.1 HPj0.out.2.2.2).mono ?_; rintro e w3 ⟨rfl, hb⟩; have hS3 := below_step hS hb)
      refine ⟨hS3, seq_at hS3 fun w8 hS4 => ?_⟩
      clear hS hS3 hb
      refine seq_do rfl (fun hS => ?_)
      simp only [List.getElem_toArray, List.getElem_cons_succ, List.getElem_cons_zero]
      go_wp2_with (go_at_call 53; refine (minuteT_calls e0 e1 e2 e3 yi _ HS.out HPi1.out.1 HPi1.out.2.1 HPi1.out.2.2.1 HPi1.out.2.2.2).mono ?_; rintro e w3 ⟨rfl, hb⟩; have hS3 := below_step hS hb)
      refine ⟨hS3, seq_at hS3 fun w8 hS4 => ?_⟩
      clear hS hS3 hb
      repeat (first | (refine seq_off (a' := ?_) rfl rfl ?_ ?_; rotate_left; (· simp only [List.getElem_toArray, List.getElem_cons_succ, List.getElem_cons_zero, Act.put, List.setIfInBounds_toArray, List.set_cons_zero, List.set_cons_succ, i64_w, i32_w]; rfl)) | (refine seq_read (v := ?_) (a' := ?_) rfl rfl (fun w' hS => ?_) ?_ ?_; rotate_left 2; (· have b1 := (B1.below hS).cl; have pu0 := cell_b hS u0; have pu1 := cell_b hS u1; have pu2 := cell_b hS u2; have pu3 := cell_b hS u3; have pu4 := cell_b hS u4; have pu5 := cell_b hS u5; have pv0 := cell_b hS v0; have pv1 := cell_b hS v1; have pv2 := cell_b hS v2; have pv3 := cell_b hS v3; have pv4 := cell_b hS v4; have pv5 := cell_b hS v5; go_simp; try with_reducible rfl); (· simp only [List.getElem_toArray, List.getElem_cons_succ, List.getElem_cons_zero, Act.put, List.setIfInBounds_toArray, List.set_cons_zero, List.set_cons_succ, i64_w, i32_w]; rfl)))
      refine seq_done ?_
      go_wp2
      go_ret
      exact ⟨rfl, below_step HB.out hS4⟩
    · have q4 : decide (tm e0 e1 e2 e3 xi < tm e0 e1 e2 e3 yj) = false := by simp; omega
      refine region_b [(0, 0), (1, 0), (2, 0), (3, 0), (4, 0), (5, 0), (6, 0), (7, 0), (9, 0), (10, 0), (11, 0), (12, 0), (8, 1), (13, 1), (14, 0), (15, 0), (16, 0), (17, 0), (18, 0), (19, 0), (20, 0), (21, 0), (22, 0), (23, 0), (24, 0), (25, 0), (26, 0), (27, 0), (28, 0), (29, 0), (30, 0), (31, 0), (32, 0), (33, 0), (34, 0)] (by kernel_rfl) rfl (by kernel_rfl) (by intro _ _ d _ _ h; cases d <;> exact h) ?_
      repeat (first | (refine seq_off (a' := ?_) rfl rfl ?_ ?_; rotate_left; (· simp only [List.getElem_toArray, List.getElem_cons_succ, List.getElem_cons_zero, Act.put, List.setIfInBounds_toArray, List.set_cons_zero, List.set_cons_succ, i64_w, i32_w]; rfl)) | (refine seq_read (v := ?_) (a' := ?_) rfl rfl (fun w' hS => ?_) ?_ ?_; rotate_left 2; (· have b1 := (B1.below hS).cl; have pu0 := cell_b hS u0; have pu1 := cell_b hS u1; have pu2 := cell_b hS u2; have pu3 := cell_b hS u3; have pu4 := cell_b hS u4; have pu5 := cell_b hS u5; have pv0 := cell_b hS v0; have pv1 := cell_b hS v1; have pv2 := cell_b hS v2; have pv3 := cell_b hS v3; have pv4 := cell_b hS v4; have pv5 := cell_b hS v5; go_simp; try with_reducible rfl); (· simp only [List.getElem_toArray, List.getElem_cons_succ, List.getElem_cons_zero, Act.put, List.setIfInBounds_toArray, List.set_cons_zero, List.set_cons_succ, i64_w, i32_w]; rfl)))
      refine seq_do rfl (fun hS => ?_)
      simp only [List.getElem_toArray, List.getElem_cons_succ, List.getElem_cons_zero]
      go_wp2_with (go_at_call 53; refine (minuteT_calls e0 e1 e2 e3 xi _ HS.out HPi0.out.1 HPi0.out.2.1 HPi0.out.2.2.1 HPi0.out.2.2.2).mono ?_; rintro e w3 ⟨rfl, hb⟩; have hS3 := below_step hS hb)
      refine ⟨hS3, seq_at hS3 fun w8 hS4 => ?_⟩
      clear hS hS3 hb
      refine seq_do rfl (fun hS => ?_)
      simp only [List.getElem_toArray, List.getElem_cons_succ, List.getElem_cons_zero]
      go_wp2_with (go_at_call 53; refine (minuteT_calls e0 e1 e2 e3 yj _ HS.out HPj1.out.1 HPj1.out.2.1 HPj1.out.2.2.1 HPj1.out.2.2.2).mono ?_; rintro e w3 ⟨rfl, hb⟩; have hS3 := below_step hS hb)
      refine ⟨hS3, seq_at hS3 fun w8 hS4 => ?_⟩
      clear hS hS3 hb
      repeat (first | (refine seq_off (a' := ?_) rfl rfl ?_ ?_; rotate_left; (· simp only [List.getElem_toArray, List.getElem_cons_succ, List.getElem_cons_zero, Act.put, List.setIfInBounds_toArray, List.set_cons_zero, List.set_cons_succ, i64_w, i32_w]; rfl)) | (refine seq_read (v := ?_) (a' := ?_) rfl rfl (fun w' hS => ?_) ?_ ?_; rotate_left 2; (· have b1 := (B1.below hS).cl; have pu0 := cell_b hS u0; have pu1 := cell_b hS u1; have pu2 := cell_b hS u2; have pu3 := cell_b hS u3; have pu4 := cell_b hS u4; have pu5 := cell_b hS u5; have pv0 := cell_b hS v0; have pv1 := cell_b hS v1; have pv2 := cell_b hS v2; have pv3 := cell_b hS v3; have pv4 := cell_b hS v4; have pv5 := cell_b hS v5; go_simp; try with_reducible rfl); (· simp only [List.getElem_toArray, List.getElem_cons_succ, List.getElem_cons_zero, Act.put, List.setIfInBounds_toArray, List.set_cons_zero, List.set_cons_succ, i64_w, i32_w]; rfl)))
      refine seq_done ?_
      go_wp2
      go_ret
      exact ⟨rfl, below_step HB.out hS4⟩
end

end Go.Proofs.Ytgdbnioodimlfaa.Wk
