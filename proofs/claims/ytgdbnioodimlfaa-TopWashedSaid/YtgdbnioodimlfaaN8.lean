/- The contract of Play of package tub, for the first woman of the queue, on a valid floor whose house has one truth. Conditions stand in each theorem. -/
import Derived.Test.YtgdbnioodimlfaaSeq
import Derived.Test.YtgdbnioodimlfaaN7
namespace Go.Proofs.Ytgdbnioodimlfaa.Wk
open Go.RowKit Go.Proofs.YtgdbnioodimlfaaW.PrintWords Go.Proofs.YtgdbnioodimlfaaW.PrintLast Go.Proofs.YtgdbnioodimlfaaW.PrintMore Go.Proofs.Ytgdbnioodimlfaa.PTopWashed Go.Proofs.Ytgdbnioodimlfaa.Sq
attribute [local go_sem] max2_int min2_int max_two min_two max_three min_three max_four min_four
set_option linter.unusedVariables false
set_option linter.unusedSimpArgs false

theorem f5_in (xs : List Int) (j : Nat) (h : j < xs.length) : f5 xs j = gi xs j := by simp [f5, gi, h]
theorem f5_out (xs : List Int) (j : Nat) (h : ¬ j < xs.length) : f5 xs j = 1099511627776 := by
  unfold f5
  rw [List.getD_eq_getElem?_getD, List.getElem?_eq_none (by omega)]
  rfl
theorem are_calls' (l : List Int) (A1 : Option Addr) (n1 c1 : Nat) (rs : List S53) (A2 : Option Addr) (n2 c2 : Nat) (w : World) (e1 : l.length = n1) (e2 : rs.length = n2) (h1 : Kd.C (Kd.int .i64) w A1 n1 l) (h2 : Kd.C k53 w A2 n2 rs) (hl : l.length = rs.length) (h63 : rs.length ≤ 1000)
    (hin : ∀ j, j < rs.length → (g53 rs j).f0 ≤ gi l j ∧ gi l j ≤ (g53 rs j).f1) :
    Calls Try.prog 26 #[.slice A1 n1 c1, .slice A2 n2 c2] w fun e w' => e = .returned (.bool true) ∧ Below w.heap.size w w' := by
  subst e1
  subst e2
  exact are_calls l A1 c1 rs A2 c2 w h1 h2 hl h63 hin
theorem g53_range (f : Nat → S53) (n j : Nat) (hj : j < n) : g53 ((List.range n).map f) j = f j := by simp [g53, hj]
section
variable {A2 : Option Addr} {c2 : Nat} {A3 : Option Addr} {c3 : Nat} {A4 : Option Addr} {c4 : Nat} {cl : List S65} {ti : List S73} {cp : List S74} {A5 : Option Addr} {c5 : Nat} {qu : List S53}
set_option maxHeartbeats 2000000 in
theorem Play_calls (e0 e1 e2 e3 hr gr tubs op clo : Int) (n0 : Nat) (gt : List Nat) (froms ms : List Int) (A6 : Option Addr) (c6 : Nat) (A7 : Option Addr) (c7 : Nat) (A8 : Option Addr) (c8 : Nat) (w : World) (H : FloIn w A2 c2 A3 c3 A4 c4 cl ti cp A5 c5 qu) (F : Flo e0 e1 e2 e3 hr gr cl ti cp tubs op clo qu)
    (hgl : glv ti cp tubs.toNat = n0 :: gt) (h6 : Kd.C (Kd.int .i64) w A6 froms.length froms) (hf1 : froms.length = (glv ti cp tubs.toNat).length) (hf2 : ∀ j, j < froms.length → gi froms j = op)
    (h7 : Kd.C (Kd.int .i64) w A7 ms.length ms) (hm1 : ms.length = qu.length) (hm2 : ∀ j, j < ms.length → gi ms j = (g53 qu j).f0) (hq : 1 ≤ qu.length) (h8 : Kd.C (Kd.int .i64) w A8 1 [0]) (hc8 : 1 ≤ c8) :
    Calls Try.prog 12 #[.agg #[.int .i64 hr, .int .i64 gr, .slice A2 cl.length c2, .slice A3 ti.length c3, .slice A4 cp.length c4, .int .i64 tubs, .int .i64 op, .int .i64 clo, .slice A5 qu.length c5], .agg #[.slice A6 froms.length c6, .slice A7 ms.length c7], .slice A8 1 c8] w fun e w' => ∃ v6 v7, e = .returned (.tuple #[v6, v7, .int .i64 0]) ∧ One w' w.heap.size v6 (n0 : Int) ∧ One w' w.heap.size v7 (op + gi ms 0) ∧ Below w.heap.size w w' := by
  have HI := Aside0.mk H
  have HF := Aside0.mk F
  have H6 := Aside0.mk h6
  have H7 := Aside0.mk h7
  have H8 := Aside0.mk h8
  have HGL := Aside0.mk hgl
  have HF1 := Aside0.mk hf1
  have HF2 := Aside0.mk hf2
  have HM1 := Aside0.mk hm1
  have HM2 := Aside0.mk hm2
  have HQ := Aside0.mk hq
  have HC8 := Aside0.mk hc8
  have HNN := Aside0.mk (show glv ti cp tubs.toNat ≠ [] from by rw [hgl]; simp)
  clear H F h6 h7 h8 hgl hf1 hf2 hm1 hm2 hq hc8
  go_enter Try.func12, Try.ntmps12
  go_upto_region 1 with fail
  refine wp_new2 fun w1 B1 B2 HB HZ => ?_
  have b1 := B1.cl
  have b2 := B2.cl
  go_wp2_with (go_at_call 24; refine (askedF_calls e0 e1 e2 e3 hr gr tubs op clo _ (HI.out.below HB.out) HF.out).mono ?_; rintro e w2 ⟨hb, ⟨hn, _⟩ | ⟨_, b, v9, v10, rfl, hA⟩⟩; exact absurd hn HNN.out; have HA := Aside0.mk hA; replace B1 := B1.below hb; replace B2 := B2.below hb; replace HB := Aside0.mk (below_step HB.out hb); clear hb hA b1 b2)
  have hA := HA.out.a
  simp only [List.cons_append, List.nil_append] at hA
  have hn4 : (glv ti cp tubs.toNat).length ≤ 4 := Nat.le_trans (glv_len ti cp _) (by have := HF.out.t4; omega)
  have hn0 : 0 < (glv ti cp tubs.toNat).length := List.length_pos_iff.2 HNN.out
  obtain ⟨A10, k10, hv, hC10⟩ := C53_of_own HA.out.o10 (by omega) hn0
  subst hv
  have HC10 := Aside0.mk hC10
  have HN := Aside0.mk (And.intro hn0 hn4)
  clear hC10 hn4 hn0
  refine region_b [(0, 0), (1, 0), (2, 0), (3, 0), (4, 0), (5, 0), (6, 1), (7, 0), (8, 0), (9, 0), (10, 0), (11, 0), (12, 0), (13, 1), (14, 0), (15, 0), (16, 0), (17, 0), (18, 0), (19, 1), (20, 0), (21, 0)] (by kernel_rfl) rfl (by kernel_rfl) (by intro _ _ d _ _ h; cases d <;> exact h) ?_
  repeat (first | (refine seq_off (a' := ?_) rfl rfl ?_ ?_; rotate_left; (· simp only [List.getElem_toArray, List.getElem_cons_succ, List.getElem_cons_zero, Act.put, List.setIfInBounds_toArray, List.set_cons_zero, List.set_cons_succ, i64_w, i32_w]; rfl)) | (refine seq_read (v := ?_) (a' := ?_) rfl rfl (fun w' hS => ?_) ?_ ?_; rotate_left 2; (· have bb := (hA.below hS).cl; have b1 := (B1.below hS).cl; have b2 := (B2.below hS).cl; go_simp; try with_reducible rfl); (· simp only [List.getElem_toArray, List.getElem_cons_succ, List.getElem_cons_zero, Act.put, List.setIfInBounds_toArray, List.set_cons_zero, List.set_cons_succ, i64_w, i32_w]; rfl)))
  refine seq_do rfl (fun hS => ?_)
  simp only [List.getElem_toArray, List.getElem_cons_succ, List.getElem_cons_zero]
  go_wp2_with (go_at_call 26; refine (are_calls' froms A6 _ c6 ((List.range (glv ti cp tubs.toNat).length).map fun _ => ⟨op, op⟩) A10 _ k10 _ rfl (by simp) (Kd.C_below H6.out (below_then HB.out HB.out.size hS)) (Kd.C_below HC10.out hS) (by rw [List.length_map, List.length_range]; exact HF1.out) (by simp; have := HN.out.2; omega) (fun j hj => by rw [List.length_map, List.length_range] at hj; rw [g53_range _ _ j hj, HF2.out j (by rw [HF1.out]; exact hj)]; exact ⟨Int.le_refl _, Int.le_refl _⟩)).mono ?_; rintro e w3 ⟨rfl, hb⟩; have hS3 := below_step hS hb)
  refine ⟨hS3, seq_at hS3 fun w4 hS4 => ?_⟩
  clear hS hS3 hb
  repeat (first | (refine seq_off (a' := ?_) rfl rfl ?_ ?_; rotate_left; (· simp only [List.getElem_toArray, List.getElem_cons_succ, List.getElem_cons_zero, Act.put, List.setIfInBounds_toArray, List.set_cons_zero, List.set_cons_succ, i64_w, i32_w]; rfl)) | (refine seq_read (v := ?_) (a' := ?_) rfl rfl (fun w' hS => ?_) ?_ ?_; rotate_left 2; (· have bb := (hA.below hS).cl; have b1 := (B1.below hS).cl; have b2 := (B2.below hS).cl; go_simp; try with_reducible rfl); (· simp only [List.getElem_toArray, List.getElem_cons_succ, List.getElem_cons_zero, Act.put, List.setIfInBounds_toArray, List.set_cons_zero, List.set_cons_succ, i64_w, i32_w]; rfl)))
  refine seq_do rfl (fun hS => ?_)
  simp only [List.getElem_toArray, List.getElem_cons_succ, List.getElem_cons_zero]
  go_wp2_with (go_at_call 26; refine (are_calls' ms A7 _ c7 qu A5 _ c5 _ rfl rfl (Kd.C_below H7.out (below_then HB.out HB.out.size hS)) (Kd.C_below HI.out.r5 (below_then HB.out HB.out.size hS)) HM1.out (by have := HF.out.q5; omega) (fun j hj => by have h := HF.out.qv _ (g53_mem qu j hj); rw [HM2.out j (by rw [HM1.out]; exact hj)]; exact ⟨Int.le_refl _, h.2.1⟩)).mono ?_; rintro e w5 ⟨rfl, hb⟩; have hS5 := below_step hS hb)
  refine ⟨hS5, seq_at hS5 fun w6 hS6 => ?_⟩
  clear hS hS4 hS5 hb
  repeat (first | (refine seq_off (a' := ?_) rfl rfl ?_ ?_; rotate_left; (· simp only [List.getElem_toArray, List.getElem_cons_succ, List.getElem_cons_zero, Act.put, List.setIfInBounds_toArray, List.set_cons_zero, List.set_cons_succ, i64_w, i32_w]; rfl)) | (refine seq_read (v := ?_) (a' := ?_) rfl rfl (fun w' hS => ?_) ?_ ?_; rotate_left 2; (· have bb := (hA.below hS).cl; have b1 := (B1.below hS).cl; have b2 := (B2.below hS).cl; go_simp; try with_reducible rfl); (· simp only [List.getElem_toArray, List.getElem_cons_succ, List.getElem_cons_zero, Act.put, List.setIfInBounds_toArray, List.set_cons_zero, List.set_cons_succ, i64_w, i32_w]; rfl)))
  refine seq_do rfl (fun hS => ?_)
  simp only [List.getElem_toArray, List.getElem_cons_succ, List.getElem_cons_zero]
  go_wp2_with (go_at_call 27; refine (order_calls hr gr tubs op clo A8 c8 _ (Kd.C_below H8.out (below_then HB.out HB.out.size hS)) HQ.out (by have := HF.out.q5; omega) HC8.out).mono ?_; rintro e w7 ⟨rfl, hb⟩; have hS7 := below_step hS hb)
  refine ⟨hS7, seq_at hS7 fun w8 hS8 => ?_⟩
  clear hS hS6 hS7 hb
  repeat (first | (refine seq_off (a' := ?_) rfl rfl ?_ ?_; rotate_left; (· simp only [List.getElem_toArray, List.getElem_cons_succ, List.getElem_cons_zero, Act.put, List.setIfInBounds_toArray, List.set_cons_zero, List.set_cons_succ, i64_w, i32_w]; rfl)) | (refine seq_read (v := ?_) (a' := ?_) rfl rfl (fun w' hS => ?_) ?_ ?_; rotate_left 2; (· have bb := (hA.below hS).cl; have b1 := (B1.below hS).cl; have b2 := (B2.below hS).cl; go_simp; try with_reducible rfl); (· simp only [List.getElem_toArray, List.getElem_cons_succ, List.getElem_cons_zero, Act.put, List.setIfInBounds_toArray, List.set_cons_zero, List.set_cons_succ, i64_w, i32_w]; rfl)))
  refine seq_done ?_
  replace B1 := B1.below hS8
  replace B2 := B2.below hS8
  replace hA := hA.below hS8
  have HO9 := Aside0.mk (own_below HA.out.o9 hS8)
  replace HB := Aside0.mk (below_then HB.out HB.out.size hS8)
  clear hS8 HA HC10
  go_wp2
  have hln : 1 ≤ froms.length ∧ froms.length ≤ 5 := by rw [HF1.out]; have := HN.out; omega
  have hx0 : f5 froms 0 = op := by rw [f5_in froms 0 (by omega)]; exact HF2.out 0 (by omega)
  have hxl : ∀ i, f5 froms 0 ≤ f5 froms i := by
    intro i
    rw [hx0]
    by_cases hi : i < froms.length
    · rw [f5_in froms i hi, HF2.out i hi]; exact Int.le_refl _
    · rw [f5_out froms i hi]; have := HF.out.oc; have := HF.out.c1; omega
  have hms : gi ms 0 = (g53 qu 0).f0 := HM2.out 0 (by rw [HM1.out]; have := HQ.out; omega)
  have hqv := HF.out.qv _ (g53_mem qu 0 (by have := HQ.out; omega))
  have hsum : -100000 ≤ f5 froms 0 + gi ms 0 ∧ f5 froms 0 + gi ms 0 ≤ 100000 := by rw [hx0, hms]; have := HF.out.o0; have := HF.out.oc; have := HF.out.c1; omega
  have HLN := Aside0.mk hln
  have HX0 := Aside0.mk hx0
  have HXL := Aside0.mk hxl
  have HSU := Aside0.mk hsum
  clear hln hx0 hxl hms hqv hsum
  refine region_b [(0, 0), (1, 0), (3, 0), (4, 0), (5, 0), (2, 1), (6, 1), (7, 0), (8, 0), (9, 0), (10, 0), (11, 0)] (by kernel_rfl) rfl (by kernel_rfl) (by intro _ _ d _ _ h; cases d <;> exact h) ?_
  repeat (first | (refine seq_off (a' := ?_) rfl rfl ?_ ?_; rotate_left; (· simp only [List.getElem_toArray, List.getElem_cons_succ, List.getElem_cons_zero, Act.put, List.setIfInBounds_toArray, List.set_cons_zero, List.set_cons_succ, i64_w, i32_w]; rfl)) | (refine seq_read (v := ?_) (a' := ?_) rfl rfl (fun w' hS => ?_) ?_ ?_; rotate_left 2; (· have b2 := (B2.below hS).cl; go_simp; try with_reducible rfl); (· simp only [List.getElem_toArray, List.getElem_cons_succ, List.getElem_cons_zero, Act.put, List.setIfInBounds_toArray, List.set_cons_zero, List.set_cons_succ, i64_w, i32_w]; rfl)))
  refine seq_do rfl (fun hS => ?_)
  simp only [List.getElem_toArray, List.getElem_cons_succ, List.getElem_cons_zero]
  go_wp2_with (go_at_call 28; refine (freed_calls froms A6 c6 _ (Kd.C_below H6.out (below_then HB.out HB.out.size hS)) HLN.out.1 HLN.out.2).mono ?_; rintro e w9 ⟨rfl, hb⟩; have hS9 := below_step hS hb)
  refine ⟨hS9, seq_at hS9 fun w10 hS10 => ?_⟩
  have HSZ := Aside0.mk (show w.heap.size ≤ w10.heap.size from by have h1 := HB.out.size; have h2 := hS10.size; omega)
  clear hS hS9 hb
  refine seq_do rfl (fun hS => ?_)
  simp only [List.getElem_toArray, List.getElem_cons_succ, List.getElem_cons_zero]
  go_wp2_with (go_at_call 29; refine (done_calls _ _ _ _ _ ms A7 c7 A8 c8 _ (Kd.C_below H7.out (below_then HB.out HB.out.size hS)) (by rw [HM1.out]; exact HQ.out) (Kd.C_below H8.out (below_then HB.out HB.out.size hS)) (HXL.out 1) (HXL.out 2) (HXL.out 3) (HXL.out 4) HSU.out.1 HSU.out.2).mono ?_; rintro e w11 ⟨v6, v7, rfl, hO6, hO7, hne, hb⟩; have hS11 := below_step hS hb)
  refine ⟨hS11, ?_⟩
  have HO6 := Aside0.mk hO6
  have HO7 := Aside0.mk hO7
  have HNE := Aside0.mk hne
  have HS11 := Aside0.mk hS11
  clear hO6 hO7 hne hb hS hS10 hS11
  repeat (first | (refine seq_off (a' := ?_) rfl rfl ?_ ?_; rotate_left; (· simp only [List.getElem_toArray, List.getElem_cons_succ, List.getElem_cons_zero, Act.put, List.setIfInBounds_toArray, List.set_cons_zero, List.set_cons_succ, i64_w, i32_w]; rfl)) | (refine seq_read (v := ?_) (a' := ?_) rfl rfl (fun w' hS => ?_) ?_ ?_; rotate_left 2; (· have b2 := (B2.below hS).cl; go_simp; try with_reducible rfl); (· simp only [List.getElem_toArray, List.getElem_cons_succ, List.getElem_cons_zero, Act.put, List.setIfInBounds_toArray, List.set_cons_zero, List.set_cons_succ, i64_w, i32_w]; rfl)))
  refine seq_done ?_
  rw [HX0.out] at HO7
  replace HO9 := Aside0.mk (own_below HO9.out HS11.out)
  replace hA := hA.below HS11.out
  replace HB := Aside0.mk (below_then HB.out HB.out.size HS11.out)
  have hin : ints (glv ti cp tubs.toNat) = .int .i64 (n0 : Int) :: ints gt := by rw [HGL.out]; rfl
  rw [hin] at HO9
  obtain ⟨g9, k9, cu9, hv9, hA9, hc9, hn9⟩ := first_of_own HO9.out
  subst hv9
  obtain ⟨g6, k6, cu6, hv6, hA6, hc6, hg6⟩ := HO6.out.out
  subst hv6
  have HD := Aside0.mk (And.intro hA9 (And.intro hc9 (And.intro hA6 (And.intro hc6 (And.intro hg6 hA)))))
  have hw8 := HSZ.out
  have HG6 := Aside0.mk (show w.heap.size ≤ g6 from by omega)
  have HO7b := Aside0.mk (HO7.out.base hw8)
  clear hA9 hc9 hA6 hc6 hg6 hA hw8 hin
  go_wp2
  go_loopg [54] 1 (fun kq v54 w' => ∃ j : Nat, v54 = .int .i64 (j : Int) ∧ Aside0 (j + kq = 1) ∧ (Aside0 (j = 0 ∧ w11 = w') ∨ Aside0 (j = 1 ∧ One w' w.heap.size (.slice (some ⟨g6, 0, none⟩) 1 k6) (n0 : Int) ∧ One w' w.heap.size v7 (op + gi ms 0) ∧ Below w.heap.size w w')))
  case atStart => exact ⟨0, rfl, ⟨rfl⟩, .inl ⟨rfl, rfl⟩⟩
  case round =>
    obtain ⟨j, rfl, HK, HDD⟩ := hrel
    match gk, HK with
    | 1, HK =>
      obtain rfl : j = 0 := by have := HK.out; omega
      rcases HDD with HDD | HDD
      case inr => exact absurd HDD.out.1 (by omega)
      obtain ⟨_, rfl⟩ := HDD.out
      clear HDD
      have bb := HD.out.2.2.2.2.2.cl
      have c9 := (HD.out.1.cl 0).trans HD.out.2.1
      have c6_ := (HD.out.2.2.1.cl 0).trans HD.out.2.2.2.1
      have f6 := HD.out.2.2.1.fr 0
      go_wp2
      have A6s := HD.out.2.2.1.set 0 (.int .i64 (n0 : Int))
      have O6 : One (w11.setCell ⟨g6, 0, none⟩ (.int .i64 (n0 : Int))) w.heap.size (.slice (some ⟨g6, 0, none⟩) 1 k6) (n0 : Int) := by
        refine ⟨g6, k6, _, rfl, A6s, ?_, HG6.out⟩
        obtain ⟨hl, _⟩ := Array.getElem?_eq_some_iff.1 HD.out.2.2.2.1
        exact Array.getElem?_setIfInBounds_self_of_lt hl
      have O7 : One (w11.setCell ⟨g6, 0, none⟩ (.int .i64 (n0 : Int))) w.heap.size v7 (op + gi ms 0) := by
        obtain ⟨g, cap, cur, hv, hA, hc, hg⟩ := HO7b.out.out
        refine ⟨g, cap, cur, hv, hA.far (p := ⟨g6, 0, none⟩) ?_ _, hc, hg⟩
        intro e
        refine HNE.out ?_
        rw [hv, e]
        rfl
      have HBz := HB.out.setCell (p := ⟨g6, 0, none⟩) HG6.out (.int .i64 (n0 : Int))
      clear bb c9 c6_ f6
      go_roundg 0
      case measure => omega
      case rel => exact ⟨1, by rfl, ⟨rfl⟩, .inr ⟨rfl, O6, O7, HBz⟩⟩
    | 0, HK =>
      obtain rfl : j = 1 := by have := HK.out; omega
      rcases HDD with HDD | HDD
      case inl => exact absurd HDD.out.1 (by omega)
      go_wp2
      refine bodyPost_ret (results_tmp3 rfl _ _ _) rfl ?_
      exact ⟨_, _, rfl, HDD.out.2.1, HDD.out.2.2.1, HDD.out.2.2.2⟩
end

end Go.Proofs.Ytgdbnioodimlfaa.Wk
