/- TopWashed where its guards hold. Conditions stand in each theorem. -/
import Derived.Test.YtgdbnioodimlfaaSeq
import Derived.Test.YtgdbnioodimlfaaT3
namespace Go.Proofs.Ytgdbnioodimlfaa.Wk
open Go.RowKit Go.Proofs.YtgdbnioodimlfaaW.PrintWords Go.Proofs.YtgdbnioodimlfaaW.PrintLast Go.Proofs.YtgdbnioodimlfaaW.PrintMore Go.Proofs.Ytgdbnioodimlfaa.PTopWashed Go.Proofs.Ytgdbnioodimlfaa.Sq
attribute [local go_sem] max2_int min2_int max_two min_two max_three min_three max_four min_four
set_option linter.unusedVariables false
set_option linter.unusedSimpArgs false

set_option maxRecDepth 20000 in
set_option maxHeartbeats 4000000 in
theorem topYes_calls (hr gr : Int) (A2 : Option Addr) (c2 : Nat) (kl : List S54) (A3 : Option Addr) (c3 : Nat) (kt : List S58) (A4 : Option Addr) (c4 : Nat) (kc : List S60) (tubs op clo : Int) (A5 : Option Addr) (c5 : Nat) (kq : List S54) (x z : Int) (w : World) (I : RefIn w A2 c2 kl A3 c3 kt A4 c4 kc A5 c5 kq) (kk : Nat) (hb : posserlaw07_Thin.f kk hr gr kl kt kc tubs op clo kq = some true) (hrr : posserref07_Fault.f kk hr gr kl kt kc tubs op clo kq = some 0)
    (hq0 : kq.length ≠ 0) (hl0 : kl.length ≠ 0) (hkk : 100 < kk) (all : List (List Int)) (hall : posserref01_Truths.f kk hr gr kl kt kc = some all) (V : Vfl hr gr kl kt kc tubs op clo kq all) (hx0 : 0 ≤ x) (hx1 : x ≤ 65535) (hz0 : 0 ≤ z) (hz1 : z ≤ 255) : Calls Try.prog 3 #[.agg #[.int .i64 hr, .int .i64 gr, .slice A2 kl.length c2, .slice A3 kt.length c3, .slice A4 kc.length c4, .int .i64 tubs, .int .i64 op, .int .i64 clo, .slice A5 kq.length c5], .int .u16 x, .int .u8 z] w fun e w' => e = .returned (.bool true) ∧ Below w.heap.size w w' := by
  have HI := Aside0.mk I
  have HTH := Aside0.mk hb
  have HFT := Aside0.mk hrr
  have HAL := Aside0.mk hall
  have HFL := Aside0.mk V
  have HQ := Aside0.mk (And.intro (show ((kq.length : Int) == 0) = false from by rw [beq_eq_false_iff_ne]; omega) (show ((kl.length : Int) == 0) = false from by rw [beq_eq_false_iff_ne]; omega))
  have HKQ := Aside0.mk (And.intro (Nat.pos_of_ne_zero hq0) (Nat.pos_of_ne_zero hl0))
  have HKK := Aside0.mk hkk
  clear hkk
  have HX := Aside0.mk (And.intro hx0 hx1)
  have HZ := Aside0.mk (And.intro hz0 hz1)
  clear I hb hrr hq0 hl0 hall V hx0 hx1 hz0 hz1
  go_enter Try.func3, Try.ntmps3
  go_upto_region 1 with fail
  refine wp_new1 fun w1 B1 HB HZ1 => ?_
  clear HZ1
  have b1 := B1.cl
  go_upto_region 4 with (first | (go_at_call 4; refine (posserlaw07_Thin.calls kk hr gr A2 c2 kl A3 c3 kt A4 c4 kc tubs op clo A5 c5 kq _ _ (Kd.C_below HI.out.r2 HB.out) HI.out.m2 (Kd.C_below HI.out.r3 HB.out) HI.out.m3 (Kd.C_below HI.out.r4 HB.out) HI.out.m4 (Kd.C_below HI.out.r5 HB.out) HI.out.m5 HTH.out).mono ?_; rintro e w2 ⟨rfl, hb⟩; replace B1 := B1.below hb; replace HB := Aside0.mk (below_step HB.out hb); clear hb b1; have b1 := B1.cl) | (go_at_call 5; refine (posserref07_Fault.calls kk hr gr A2 c2 kl A3 c3 kt A4 c4 kc tubs op clo A5 c5 kq _ _ (Kd.C_below HI.out.r2 HB.out) HI.out.m2 (Kd.C_below HI.out.r3 HB.out) HI.out.m3 (Kd.C_below HI.out.r4 HB.out) HI.out.m4 (Kd.C_below HI.out.r5 HB.out) HI.out.m5 HFT.out).mono ?_; rintro e w3 ⟨rfl, hb⟩; replace B1 := B1.below hb; replace HB := Aside0.mk (below_step HB.out hb); clear hb b1; have b1 := B1.cl; have hq := HQ.out) | (go_at_call 7; refine (posserref01_Truths.calls kk hr gr A2 c2 kl A3 c3 kt A4 c4 kc all _ (Kd.C_below HI.out.r2 HB.out) HI.out.m2 (Kd.C_below HI.out.r3 HB.out) HI.out.m3 (Kd.C_below HI.out.r4 HB.out) HI.out.m4 HAL.out).mono ?_; rintro e w5 ⟨v7, rfl, hS7, hb⟩; obtain ⟨A7, c7, hv7, hc7, hC7⟩ := Kd.S_reads hS7; subst hv7; have HS := Aside0.mk hC7; replace B1 := B1.below hb; replace HB := Aside0.mk (below_step HB.out hb); clear hb b1 hS7 hC7 hc7; have b1 := B1.cl))
  have hL : 0 < all.length := List.length_pos_iff.2 HFL.out.ne
  have hL3 := HFL.out.al
  obtain ⟨m, hm, hmL⟩ : ∃ m : Nat, Int.tmod x (all.length : Int) = (m : Int) ∧ m < all.length := by
    have := HX.out
    refine ⟨(Int.tmod x (all.length : Int)).toNat, ?_, ?_⟩
    · rw [Int.toNat_of_nonneg (Int.tmod_nonneg _ this.1)]
    · have h2 := Int.tmod_lt_of_pos x (show (0 : Int) < all.length by omega)
      have h3 := Int.tmod_nonneg (all.length : Int) this.1
      omega
  obtain ⟨ad, At_, ct, hA7, hc7, hct, hCt⟩ := at_list HS.out (m : Int) (by omega) (by omega)
  subst hA7
  rw [Int.toNat_natCast] at hc7 hct hCt
  have HT := Aside0.mk hCt
  have HCT := Aside0.mk hct
  have hzz : ((all.length : Int) == 0) = false := by rw [beq_eq_false_iff_ne]; omega
  have hm0 : (m : Int) < all.length := by omega
  have HMM := Aside0.mk hm
  have HML := Aside0.mk hmL
  have hxw := HX.out
  have hw1 : wrap64 x = x := w64 (by omega) (by omega)
  have hw2 : wrap64 (m : Int) = m := w64 (by omega) (by omega)
  clear hCt hct hmL hL hxw
  go_upto_region 5 with fail
  clear hm hc7 hzz hm0 hw1 hw2 HS HAL HQ
  have HIT := Aside0.mk (HFL.out.tru _ (gl_mem all m HML.out))
  have HTL := Aside0.mk (show (gl all m).length ≤ 4 from by have h1 := HIT.out.1.1; have h2 := HFL.out.H.V.1; omega)
  generalize gl all m = t at HT HCT HIT HTL ⊢
  have hbq : Below w.heap.size w w5 := HB.out
  go_upto_region 6 with (go_at_call 8; refine (set_calls hr gr tubs op clo A2 kl.length c2 A3 kt.length c3 A4 kc.length c4 A5 kq.length c5 t At_ ct _ HT.out (by have := HTL.out; omega)).mono ?_; rintro e w6 ⟨v2, rfl, h2, hb⟩; obtain ⟨K2, d2, hv2⟩ := own_form h2; subst hv2; have H2 := Aside0.mk h2; replace B1 := B1.below hb; replace HT := Aside0.mk (Kd.C_below HT.out hb); replace HB := Aside0.mk (below_step HB.out hb); clear h2 hb b1; have b1 := B1.cl)
  refine wp_new1 fun w7 BX HB7 HZ7 => ?_
  have hgx : w.heap.size < w6.heap.size := B1.lt
  replace B1 := B1.below HB7.out
  replace HT := Aside0.mk (Kd.C_below HT.out HB7.out)
  have hJ : RefIn w7 K2 d2 (kll t) A3 c3 kt A4 c4 kc A5 c5 kq := by
    have h2 := own_below H2.out HB7.out
    have h3 : w7.ownsRow w5.heap.size 54 2 (.slice K2 t.length d2) t.length (raw2 (fun i => (g54 (kll t) i).f0) (fun i => (g54 (kll t) i).f1) t.length) := by
      simp only [g54_kll]
      exact h2
    obtain ⟨A, cap, hv, hle, hC⟩ := C54_of_raw h3 (kll_len t) (by have := HTL.out; omega)
    injection hv with h4 h5 h6
    subst h4 h6
    have hbb := below_step HB.out HB7.out
    exact ⟨by rw [kll_len]; exact hC, by rw [kll_len]; exact hle, Kd.C_below HI.out.r3 hbb, HI.out.m3, Kd.C_below HI.out.r4 hbb, HI.out.m4, Kd.C_below HI.out.r5 hbb, HI.out.m5⟩
  have HJ := Aside0.mk hJ
  replace HB := Aside0.mk (below_step HB.out HB7.out)
  have H1 := Aside0.mk B1
  have H3 := Aside0.mk BX
  have HGX := Aside0.mk hgx
  generalize w6.heap.size = gx at H3 HGX ⊢
  clear B1 BX hJ HB7 HZ7 H2 hbq b1 hgx
  go_wp2
  go_loopg [10] kc.length (fun gq v10 w' => ∃ j : Nat, v10 = .int .i64 (j : Int) ∧ Aside0 (j + gq = kc.length) ∧ Aside0 (∀ i, i < j → tr t kc i ≤ op) ∧ Aside0 (At w' w.heap.size #[.int .i64 hr, .int .i64 gr, .slice A2 kl.length c2, .slice A3 kt.length c3, .slice A4 kc.length c4, .int .i64 tubs, .int .i64 op, .int .i64 clo, .slice A5 kq.length c5] 28) ∧ Aside0 (At w' gx #[.int .i64 hr, .int .i64 gr, .slice K2 t.length d2, .slice A3 kt.length c3, .slice A4 kc.length c4, .int .i64 tubs, .int .i64 op, .int .i64 clo, .slice A5 kq.length c5] 28) ∧ Aside0 (RefIn w' K2 d2 (kll t) A3 c3 kt A4 c4 kc A5 c5 kq) ∧ Aside0 (Kd.C (Kd.int .i64) w' At_ t.length t) ∧ Aside0 (Below w.heap.size w w'))
  case atStart => exact ⟨0, rfl, ⟨by omega⟩, ⟨fun i hi => absurd hi (Nat.not_lt_zero _)⟩, H1, H3, HJ, HT, HB⟩
  case round =>
    clear H1 H3 HJ HT HB
    obtain ⟨j, rfl, HK, HOP, H1, H3, HJ, HT, HB⟩ := hrel
    have b1 := H1.out.cl
    by_cases hlt : j < kc.length
    · obtain ⟨k1, rfl⟩ : ∃ k1, gk = k1 + 1 := ⟨gk - 1, by have := HK.out; omega⟩
      have HLT := Aside0.mk hlt
      have hj2 : (j : Int) < kc.length := by omega
      clear hlt
      go_wp2
      clear b1
      refine region_b [(0, 0), (1, 0), (2, 0), (3, 0), (5, 0), (6, 0), (4, 1), (7, 0)] (by kernel_rfl) rfl (by kernel_rfl) (by intro _ _ d _ _ h; cases d <;> exact h) ?_
      repeat (first | (refine seq_off (a' := ?_) rfl rfl ?_ ?_; rotate_left; (· simp only [List.getElem_toArray, List.getElem_cons_succ, List.getElem_cons_zero, Act.put, List.setIfInBounds_toArray, List.set_cons_zero, List.set_cons_succ, i64_w, i32_w]; rfl)) | (refine seq_read (v := ?_) (a' := ?_) rfl rfl (fun w' hS => ?_) ?_ ?_; rotate_left 2; (· have b1 := (H1.out.below hS).cl; go_simp; try with_reducible rfl); (· simp only [List.getElem_toArray, List.getElem_cons_succ, List.getElem_cons_zero, Act.put, List.setIfInBounds_toArray, List.set_cons_zero, List.set_cons_succ, i64_w, i32_w]; rfl)))
      refine seq_do rfl (fun hS => ?_)
      simp only [List.getElem_toArray, List.getElem_cons_succ, List.getElem_cons_zero]
      go_wp2_with (go_at_call 9; refine (posserref01_True.calls hr gr A2 c2 kl A3 c3 kt A4 c4 kc At_ ct t (j : Int) _ _ (Kd.C_below HI.out.r2 (below_then HB.out HB.out.size hS)) HI.out.m2 (Kd.C_below HI.out.r3 (below_then HB.out HB.out.size hS)) HI.out.m3 (Kd.C_below HI.out.r4 (below_then HB.out HB.out.size hS)) HI.out.m4 (Kd.C_below HT.out hS) HCT.out (true_f hr gr kl kt kc kt.length HFL.out.H.V HFL.out.H.C t HIT.out.1 j HLT.out)).mono ?_; rintro e w8 ⟨rfl, hb⟩; have hS8 := below_step hS hb)
      refine ⟨hS8, seq_at hS8 fun w9 hS9 => ?_⟩
      clear hS hS8 hb
      repeat (first | (refine seq_off (a' := ?_) rfl rfl ?_ ?_; rotate_left; (· simp only [List.getElem_toArray, List.getElem_cons_succ, List.getElem_cons_zero, Act.put, List.setIfInBounds_toArray, List.set_cons_zero, List.set_cons_succ, i64_w, i32_w]; rfl)) | (refine seq_read (v := ?_) (a' := ?_) rfl rfl (fun w' hS => ?_) ?_ ?_; rotate_left 2; (· have b1 := (H1.out.below hS).cl; go_simp; try with_reducible rfl); (· simp only [List.getElem_toArray, List.getElem_cons_succ, List.getElem_cons_zero, Act.put, List.setIfInBounds_toArray, List.set_cons_zero, List.set_cons_succ, i64_w, i32_w]; rfl)))
      refine seq_done ?_
      replace H1 := Aside0.mk (H1.out.below hS9)
      replace H3 := Aside0.mk (H3.out.below hS9)
      replace HJ := Aside0.mk (HJ.out.below hS9)
      replace HT := Aside0.mk (Kd.C_below HT.out hS9)
      replace HB := Aside0.mk (below_then HB.out HB.out.size hS9)
      clear hS9
      by_cases hgt : op < tr t kc j
      · have hd : decide (op < tr t kc j) = true := decide_eq_true hgt
        clear hgt
        rw [hd]
        have B1 := 0
        have b1 := 0
        go_wp2_with (go_at_call 6; refine (washed_calls _).mono ?_; rintro e w4 ⟨rfl, hb⟩; replace HB := Aside0.mk (below_step HB.out hb); clear hb B1 b1)
        go_ret
        exact ⟨rfl, HB.out⟩
      · have hd : decide (op < tr t kc j) = false := decide_eq_false hgt
        have HGT := Aside0.mk hgt
        have hj1 : wrap64 ((j : Int) + 1) = ((j + 1 : Nat) : Int) := by rw [w64 (by have := HFL.out.H.C.1; omega) (by have := HFL.out.H.C.1; omega)]; omega
        clear hgt
        rw [hd]
        go_wp2
        go_roundg k1
        case measure => omega
        case rel => exact ⟨j + 1, by go_num, ⟨by have := HK.out; omega⟩, ⟨fun i hi => by
          rcases Nat.lt_or_ge i j with h | h
          · exact HOP.out i h
          · have : i = j := by omega
            subst this
            have := HGT.out
            omega⟩, H1, H3, HJ, HT, HB⟩
    · have hj : j = kc.length := by have := HK.out; omega
      subst hj
      clear hlt HK
      go_upto_region 11 with fail
      obtain ⟨cl, hcl⟩ : ∃ cl, (kll t).map m65 = cl := ⟨_, rfl⟩
      obtain ⟨ti, hti⟩ : ∃ ti, kt.map m73 = ti := ⟨_, rfl⟩
      obtain ⟨cp, hcp⟩ : ∃ cp, kc.map m74 = cp := ⟨_, rfl⟩
      obtain ⟨qu, hqu⟩ : ∃ qu, kq.map m53 = qu := ⟨_, rfl⟩
      have HF := Aside0.mk (flo_of HFL.out HIT.out HOP.out)
      rw [hcl, hti, hcp, hqu] at HF
      have HCL := Aside0.mk hcl
      have HTI := Aside0.mk hti
      have HCP := Aside0.mk hcp
      have HQU := Aside0.mk hqu
      clear hcl hti hcp hqu
      have b3 := H3.out.cl
      have hge : w.heap.size ≤ gx := Nat.le_of_lt HGX.out
      have HL := Aside0.mk (And.intro HFL.out.H.n3 (And.intro HFL.out.H.C.1 HFL.out.q5))
      clear b1 HI HTH HFT
      by_cases hgv : glv ti cp tubs.toNat = []
      · have HGV := Aside0.mk hgv
        clear hgv
        go_wp2_with (first
          | (go_at_call 11; refine (floorOf_calls hr gr tubs op clo t.length (kll t) K2 d2 kt A3 c3 kc A4 c4 kq A5 c5 _ (kll_len t) (by have := HJ.out.r2; rwa [kll_len] at this) HJ.out.r3 HJ.out.r4 HJ.out.r5 (by have := HTL.out; omega) (by have := HL.out; omega) (by have := HL.out; omega) (by have := HL.out; omega) cl ti cp qu HCL.out HTI.out HCP.out HQU.out).mono ?_; rintro e w10 ⟨B2, b2, B3, b3', B4, b4, B5, b5, rfl, hI, hb⟩; have HFI := Aside0.mk hI; replace HB := Aside0.mk (below_step HB.out hb); clear hb hI b3)
          | (go_at_call 10; refine (Given_calls _ _ _ _ hr gr tubs op clo _ HFI.out HF.out).mono ?_; rintro e w11 ⟨hb, ⟨_, rfl⟩ | ⟨hn, _⟩⟩; rotate_left; exact absurd HGV.out hn; replace HB := Aside0.mk (below_step HB.out hb); clear hb)
          | (go_at_call 6; refine (washed_calls _).mono ?_; rintro e w4 ⟨rfl, hb⟩; replace HB := Aside0.mk (below_step HB.out hb); clear hb))
        go_ret
        exact ⟨rfl, HB.out⟩
      · have HGV := Aside0.mk hgv
        clear hgv
        go_upto_region 14 with (first
          | (go_at_call 11; refine (floorOf_calls hr gr tubs op clo t.length (kll t) K2 d2 kt A3 c3 kc A4 c4 kq A5 c5 _ (kll_len t) (by have := HJ.out.r2; rwa [kll_len] at this) HJ.out.r3 HJ.out.r4 HJ.out.r5 (by have := HTL.out; omega) (by have := HL.out; omega) (by have := HL.out; omega) (by have := HL.out; omega) cl ti cp qu HCL.out HTI.out HCP.out HQU.out).mono ?_; rintro e w10 ⟨B2, b2, B3, b3', B4, b4, B5, b5, rfl, hI, hb⟩; have HFI := Aside0.mk hI; replace HB := Aside0.mk (below_step HB.out hb); replace H1 := Aside0.mk (H1.out.below hb); replace H3 := Aside0.mk (H3.out.below hb); replace HJ := Aside0.mk (HJ.out.below hb); replace HT := Aside0.mk (Kd.C_below HT.out hb); clear hb hI b3)
          | (go_at_call 10; refine (Given_calls _ _ _ _ hr gr tubs op clo _ HFI.out HF.out).mono ?_; rintro e wu ⟨hb, ⟨hn, _⟩ | ⟨_, v9, v10, rfl, o9, o10⟩⟩; exact absurd hn HGV.out; have HO10 := Aside0.mk o10; replace H1 := Aside0.mk (H1.out.below hb); replace H3 := Aside0.mk (H3.out.below hb); replace HJ := Aside0.mk (HJ.out.below hb); replace HT := Aside0.mk (Kd.C_below HT.out hb); replace HB := Aside0.mk (below_step HB.out hb); clear hb o9 o10))
        obtain ⟨ng, hng⟩ : ∃ n, (glv ti cp tubs.toNat).length = n := ⟨_, rfl⟩
        have hn4 : ng ≤ 4 := by rw [← hng]; exact Nat.le_trans (glv_len ti cp _) (by have := HF.out.t4; omega)
        have hn0 : 0 < ng := by rw [← hng]; exact List.length_pos_iff.2 HGV.out
        have o10 := HO10.out
        rw [hng] at o10
        obtain ⟨A10, k10, hv, hC10⟩ := C53_of_own o10 (by omega) hn0
        subst hv
        have HC10 := Aside0.mk hC10
        have HN := Aside0.mk (And.intro hn0 (And.intro hn4 hng))
        clear hC10 hn4 hn0 hng o10 HO10
        have hgpl := H1.out.lt
        have hgxl := H3.out.lt
        have HBW := HB
        clear HB
        generalize hgp : w.heap.size = gp at H1 HGX hgpl ⊢
        have HGP := Aside0.mk hgp
        clear hgp
        go_upto_region 15 with fail
        refine wp_new1 fun wv B2 HB HZ2 => ?_
        have H2 := Aside0.mk B2
        clear B2 HZ2
        go_wp2
        go_loopg [15] (ng) (fun gq vc w' => ∃ (j : Nat) (v2 : Value), vc = .int .i64 (j : Int) ∧ Aside0 (j + gq = ng) ∧ Aside0 (At w' (wu.heap.size) #[v2, .slice none 0 0] 51) ∧ Aside0 (w'.ownsRow wu.heap.size 3 1 v2 j (raw1 (fun _ => op) j)) ∧ Aside0 (Below wu.heap.size wu w'))
        case atStart => exact ⟨0, .slice none 0 0, rfl, ⟨by omega⟩, H2, ⟨World.ownsRow_nil _ _ _ _⟩, HB⟩
        case round =>
          clear  H2  HB
          obtain ⟨j, v2, rfl, HK, H2, HR, HB⟩ := hrel
          obtain ⟨V2, k2, hv2⟩ := own_form HR.out
          subst hv2
          by_cases hlt : j < ng
          · obtain ⟨k1, rfl⟩ : ∃ k1, gk = k1 + 1 := ⟨gk - 1, by have := HK.out; omega⟩
            obtain ⟨ad, ee, x0, _⟩ := at53 (Kd.C_below HC10.out HB.out) j hlt
            cases ee
            rw [g53_range _ _ j hlt] at x0
            dsimp only at x0
            have hadlt : ad.block < wu.heap.size := by
              obtain ⟨ad', ee', y0, _⟩ := at53 HC10.out j hlt
              cases ee'
              have h := World.block_lt_of_cell? _ _ y0
              rwa [add_block] at h
            have hj2 : (j : Int) < ng := by omega
            have hjb : j ≤ 1000 := by have := HN.out; omega
            have b2 := H2.out.cl
            go_wp2
            clear b2
            refine region_seq [(0, 0), (1, 0), (2, 0), (3, 0), (4, 0), (5, 0), (6, 0), (7, 1), (8, 1), (9, 0), (10, 2)] (fun w' => At w' (wu.heap.size) #[.slice V2 j k2, .slice none 0 0] 51 ∧ w'.cell? (ad.add (j * 2)) = some (.int .i64 op)) (by kernel_rfl) rfl (by kernel_rfl) (by intro _ _ d _ _ h; cases d <;> exact h) ⟨H2.out.drew, x0⟩ ?_
            repeat (first | (refine seq_off (a' := ?_) rfl rfl ?_ ?_; rotate_left; (· simp only [List.getElem_toArray, List.getElem_cons_succ, List.getElem_cons_zero, Act.put, List.setIfInBounds_toArray, List.set_cons_zero, List.set_cons_succ, i64_w, i32_w]; rfl)) | (refine seq_read (v := ?_) (a' := ?_) rfl rfl (fun w' hS => ?_) ?_ ?_; rotate_left 2; (· obtain ⟨S2, y0⟩ := hS; have b2 := S2.cl; go_simp; try with_reducible rfl); (· simp only [List.getElem_toArray, List.getElem_cons_succ, List.getElem_cons_zero, Act.put, List.setIfInBounds_toArray, List.set_cons_zero, List.set_cons_succ, i64_w, i32_w]; rfl)))
            have hb7 : Below wr.heap.size wr wr.drew := (Below.refl _ _).drew
            repeat (first | (refine seq_off (a' := ?_) rfl rfl ?_ ?_; rotate_left; (· simp only [List.getElem_toArray, List.getElem_cons_succ, List.getElem_cons_zero, Act.put, List.setIfInBounds_toArray, List.set_cons_zero, List.set_cons_succ, i64_w, i32_w]; rfl)) | (refine seq_read (v := ?_) (a' := ?_) rfl rfl (fun w' hS => ?_) ?_ ?_; rotate_left 2; (· obtain ⟨S2, y0⟩ := hS; have b2 := S2.cl; go_simp; try with_reducible rfl); (· simp only [List.getElem_toArray, List.getElem_cons_succ, List.getElem_cons_zero, Act.put, List.setIfInBounds_toArray, List.set_cons_zero, List.set_cons_succ, i64_w, i32_w]; rfl)))
            refine seq_do rfl (fun hS => ?_)
            simp only [List.getElem_toArray, List.getElem_cons_succ, List.getElem_cons_zero]
            go_wp2
            refine ⟨by obtain ⟨S2, y0⟩ := hS; exact ⟨S2.alloc _, cell_b (below_alloc (Below.refl _ _) _) y0⟩, ?_⟩
            refine seq_do rfl (fun hS => ?_)
            simp only [List.getElem_toArray, List.getElem_cons_succ, List.getElem_cons_zero]
            obtain ⟨ie, hi1, hi2, hi3, hi4⟩ := info3'
            have hbd : Below wr.heap.size wr (wr.alloc (.cells #[.int .i64 op] 3)).drew := (below_alloc (Below.refl _ _) _).drew
            refine wpList_append_own _ rfl (.tmp 109) (.tmp 115) 35 rfl wu.heap.size 3 ie _ 1 8 Try.underlying35 hi1 hi2 hi3 hi4 rfl (by omega) (.slice V2 j k2) j (raw1 (fun _ => op) j) rfl (own_below HR.out hbd) ⟨wr.heap.size, 0, none⟩ 1 1 [.int .i64 op] rfl rfl ?news (by simp [Value.oneCell']) (by unfold maxLen; omega) (by omega) ?base ?_
            case news =>
              intro k u hk
              match k, hk with
              | 0, hk => simp at hk; subst hk; simp [Addr.add, (At.new wr _ _).drew.cl]
            case base => have h1 := HB.out.size; have h2 := hbd.size; omega
            intro v2' w11 hown hgr _
            obtain ⟨V3, k3, hv⟩ := own_form hown
            subst hv
            have HBn := pw_below_grown (below_then HB.out HB.out.size hbd) _ (by have h1 := HB.out.size; have h2 := hbd.size; omega) hgr (own_ge HR.out)
            have C2 := at_grown (H2.out.below hbd) hgr (own_ne_at (own_below HR.out hbd) (H2.out.below hbd) (by decide))
            have z0 := cell_grown (cell_b hbd x0) hgr (by intro e; have := own_ge HR.out _ e.symm; have e2 := add_block ad j; simp only [add_block] at *; omega)
            refine ⟨⟨C2, z0⟩, ?_⟩
            repeat (first | (refine seq_off (a' := ?_) rfl rfl ?_ ?_; rotate_left; (· simp only [List.getElem_toArray, List.getElem_cons_succ, List.getElem_cons_zero, Act.put, List.setIfInBounds_toArray, List.set_cons_zero, List.set_cons_succ, i64_w, i32_w]; rfl)) | (refine seq_read (v := ?_) (a' := ?_) rfl rfl (fun w' hS => ?_) ?_ ?_; rotate_left 2; (· obtain ⟨S2, y0⟩ := hS; have b2 := S2.cl; go_simp; try with_reducible rfl); (· simp only [List.getElem_toArray, List.getElem_cons_succ, List.getElem_cons_zero, Act.put, List.setIfInBounds_toArray, List.set_cons_zero, List.set_cons_succ, i64_w, i32_w]; rfl)))
            refine seq_last rfl ?_
            simp only [List.getElem_toArray, List.getElem_cons_succ, List.getElem_cons_zero]
            have b2 := C2.cl
            have f2 := C2.fr
            clear hS x0 z0 hgr hbd hb7 hi1 hi2 hi3 hi4 HR H2 
            go_wp2
            refine seq_done ?_
            have E2 := C2.set 0 (.slice V3 (j + 1) k3)
            have E2' : At (w11.setCell ⟨wu.heap.size, 0, none⟩ (.slice V3 (j + 1) k3)) (wu.heap.size) #[.slice V3 (j + 1) k3, .slice none 0 0] 51 := by simpa using E2
            have F2 := own_set hown (own_ne_at hown C2 (by decide)) 0 (.slice V3 (j + 1) k3)
            have HBz := HBn.setCell (p := ⟨wu.heap.size, 0, none⟩) (by show wu.heap.size ≤ wu.heap.size; omega) (.slice V3 (j + 1) k3)
            have HRS := Aside0.mk (show raw1 (fun _ => op) (j + 1) = raw1 (fun _ => op) j ++ [.int .i64 op] from by rw [raw1_succ]; try rfl)
            clear b2 f2 E2 C2 hown HBn HB 
            generalize w11.setCell ⟨wu.heap.size, 0, none⟩ (.slice V3 (j + 1) k3) = w12 at E2' F2 HBz  ⊢
            go_wp2
            go_roundg k1
            case measure => omega
            case rel => exact ⟨j + 1, _, by go_num, ⟨by have := HK.out; omega⟩, ⟨E2'⟩, ⟨by rw [HRS.out]; exact F2⟩, ⟨HBz⟩⟩
          · have hj : j = ng := by have := HK.out; omega
            subst hj
            obtain ⟨ng, hngj⟩ : ∃ n, n = j := ⟨j, rfl⟩
            subst hngj
            obtain ⟨ga, ka, cuA, hva, hka, hAA, hga, hcA⟩ := raw1_of_own HR.out (HN.out.1)
            injection hva with e1 e2 e3
            subst e1 e3
            obtain ⟨ka, hka2⟩ : ∃ n, n = k2 := ⟨k2, rfl⟩
            subst hka2
            have HA := Aside0.mk hAA
            have HCA := Aside0.mk (And.intro hka hcA)
            clear hka hcA HR HK hlt
            have hga1 : wu.heap.size ≤ ga + 1 := by omega
            have hgau : ga ≠ wu.heap.size := at_ne hAA H2.out (by decide)
            clear hAA
            have H1 := Aside0.mk (H1.out.below HB.out)
            go_wp2
            go_loopg [16] (kq.length) (fun gq vc w' => ∃ (j : Nat) (v2 : Value), vc = .int .i64 (j : Int) ∧ Aside0 (j + gq = kq.length) ∧ Aside0 (At w' (gp) #[.int .i64 hr, .int .i64 gr, .slice A2 kl.length c2, .slice A3 kt.length c3, .slice A4 kc.length c4, .int .i64 tubs, .int .i64 op, .int .i64 clo, .slice A5 kq.length c5] 28) ∧ Aside0 (At w' (ga) cuA 3) ∧ Aside0 (At w' (wu.heap.size) #[.slice (some ⟨ga, 0, none⟩) ng ka, v2] 51) ∧ Aside0 (w'.ownsRow (ga + 1) 3 1 v2 j (raw1 (fun i => (g54 kq i).f0) j)) ∧ Aside0 (Below wu.heap.size wu w'))
            case atStart => exact ⟨0, .slice none 0 0, rfl, ⟨by omega⟩, H1, HA, H2, ⟨World.ownsRow_nil _ _ _ _⟩, HB⟩
            case round =>
              clear H1 HA H2  HB
              obtain ⟨j, v2, rfl, HK, H1, HA, H2, HR, HB⟩ := hrel
              obtain ⟨V2, k2, hv2⟩ := own_form HR.out
              subst hv2
              by_cases hlt : j < kq.length
              · obtain ⟨k1, rfl⟩ : ∃ k1, gk = k1 + 1 := ⟨gk - 1, by have := HK.out; omega⟩
                obtain ⟨ad, ee, x0, _⟩ := at54 (Kd.C_below HJ.out.r5 HB.out) j hlt
                cases ee
                generalize hxx : g54 kq j = x at x0
                have HX := Aside0.mk hxx
                clear hxx
                have hadlt : ad.block < wu.heap.size := by
                  obtain ⟨ad', ee', y0, _⟩ := at54 HJ.out.r5 j hlt
                  cases ee'
                  have h := World.block_lt_of_cell? _ _ y0
                  rwa [add_block] at h
                have hj2 : (j : Int) < kq.length := by omega
                have hjb : j ≤ 1000 := by have := HL.out; omega
                have b1 := H1.out.cl
                have hl1 := H1.out.lt
                go_wp2
                clear b1 hl1
                refine region_seq [(0, 0), (1, 0), (2, 0), (3, 0), (4, 0), (5, 0), (6, 0), (7, 0), (8, 1), (9, 1), (10, 0), (11, 2)] (fun w' => At w' (wu.heap.size) #[.slice (some ⟨ga, 0, none⟩) ng ka, .slice V2 j k2] 51 ∧ At w' (gp) #[.int .i64 hr, .int .i64 gr, .slice A2 kl.length c2, .slice A3 kt.length c3, .slice A4 kc.length c4, .int .i64 tubs, .int .i64 op, .int .i64 clo, .slice (some ad) kq.length c5] 28 ∧ At w' (ga) cuA 3 ∧ w'.cell? (ad.add (j * 2)) = some (.int .i64 x.f0)) (by kernel_rfl) rfl (by kernel_rfl) (by intro _ _ d _ _ h; cases d <;> exact h) ⟨H2.out.drew, H1.out.drew, HA.out.drew, x0⟩ ?_
                repeat (first | (refine seq_off (a' := ?_) rfl rfl ?_ ?_; rotate_left; (· simp only [List.getElem_toArray, List.getElem_cons_succ, List.getElem_cons_zero, Act.put, List.setIfInBounds_toArray, List.set_cons_zero, List.set_cons_succ, i64_w, i32_w]; rfl)) | (refine seq_read (v := ?_) (a' := ?_) rfl rfl (fun w' hS => ?_) ?_ ?_; rotate_left 2; (· obtain ⟨S2, S_H1, S_HA, y0⟩ := hS; have b2 := S2.cl; have b_H1 := S_H1.cl; have b_HA := S_HA.cl; go_simp; try with_reducible rfl); (· simp only [List.getElem_toArray, List.getElem_cons_succ, List.getElem_cons_zero, Act.put, List.setIfInBounds_toArray, List.set_cons_zero, List.set_cons_succ, i64_w, i32_w]; rfl)))
                have hb7 : Below wr.heap.size wr wr.drew := (Below.refl _ _).drew
                repeat (first | (refine seq_off (a' := ?_) rfl rfl ?_ ?_; rotate_left; (· simp only [List.getElem_toArray, List.getElem_cons_succ, List.getElem_cons_zero, Act.put, List.setIfInBounds_toArray, List.set_cons_zero, List.set_cons_succ, i64_w, i32_w]; rfl)) | (refine seq_read (v := ?_) (a' := ?_) rfl rfl (fun w' hS => ?_) ?_ ?_; rotate_left 2; (· obtain ⟨S2, S_H1, S_HA, y0⟩ := hS; have b2 := S2.cl; have b_H1 := S_H1.cl; have b_HA := S_HA.cl; go_simp; try with_reducible rfl); (· simp only [List.getElem_toArray, List.getElem_cons_succ, List.getElem_cons_zero, Act.put, List.setIfInBounds_toArray, List.set_cons_zero, List.set_cons_succ, i64_w, i32_w]; rfl)))
                refine seq_do rfl (fun hS => ?_)
                simp only [List.getElem_toArray, List.getElem_cons_succ, List.getElem_cons_zero]
                go_wp2
                refine ⟨by obtain ⟨S2, S_H1, S_HA, y0⟩ := hS; exact ⟨S2.alloc _, S_H1.alloc _, S_HA.alloc _, cell_b (below_alloc (Below.refl _ _) _) y0⟩, ?_⟩
                refine seq_do rfl (fun hS => ?_)
                simp only [List.getElem_toArray, List.getElem_cons_succ, List.getElem_cons_zero]
                obtain ⟨ie, hi1, hi2, hi3, hi4⟩ := info3'
                have hbd : Below wr.heap.size wr (wr.alloc (.cells #[.int .i64 x.f0] 3)).drew := (below_alloc (Below.refl _ _) _).drew
                refine wpList_append_own _ rfl (.tmp 126) (.tmp 133) 35 rfl (ga + 1) 3 ie _ 1 8 Try.underlying35 hi1 hi2 hi3 hi4 rfl (by omega) (.slice V2 j k2) j (raw1 (fun i => (g54 kq i).f0) j) rfl (own_below HR.out hbd) ⟨wr.heap.size, 0, none⟩ 1 1 [.int .i64 x.f0] rfl rfl ?news (by simp [Value.oneCell']) (by unfold maxLen; omega) (by omega) ?base ?_
                case news =>
                  intro k u hk
                  match k, hk with
                  | 0, hk => simp at hk; subst hk; simp [Addr.add, (At.new wr _ _).drew.cl]
                case base => have h1 := (HA.out.below hbd).lt; omega
                intro v2' w11 hown hgr _
                obtain ⟨V3, k3, hv⟩ := own_form hown
                subst hv
                have HBn := pw_below_grown (below_then HB.out HB.out.size hbd) _ (by have h1 := HB.out.size; have h2 := hbd.size; omega) hgr (own_ge (own_base HR.out (by omega)))
                have C2 := at_grown (H2.out.below hbd) hgr (own_ne_at (own_below HR.out hbd) (H2.out.below hbd) (by decide))
                have C_H1 := at_grown (H1.out.below hbd) hgr (own_ne_at (own_below HR.out hbd) (H1.out.below hbd) (by decide))
                have C_HA := at_grown (HA.out.below hbd) hgr (own_ne_lt (own_below HR.out hbd) (Nat.lt_succ_self ga))
                have z0 := cell_grown (cell_b hbd x0) hgr (by intro e; have := own_ge HR.out _ e.symm; have e2 := add_block ad j; simp only [add_block] at *; omega)
                refine ⟨⟨C2, C_H1, C_HA, z0⟩, ?_⟩
                repeat (first | (refine seq_off (a' := ?_) rfl rfl ?_ ?_; rotate_left; (· simp only [List.getElem_toArray, List.getElem_cons_succ, List.getElem_cons_zero, Act.put, List.setIfInBounds_toArray, List.set_cons_zero, List.set_cons_succ, i64_w, i32_w]; rfl)) | (refine seq_read (v := ?_) (a' := ?_) rfl rfl (fun w' hS => ?_) ?_ ?_; rotate_left 2; (· obtain ⟨S2, S_H1, S_HA, y0⟩ := hS; have b2 := S2.cl; have b_H1 := S_H1.cl; have b_HA := S_HA.cl; go_simp; try with_reducible rfl); (· simp only [List.getElem_toArray, List.getElem_cons_succ, List.getElem_cons_zero, Act.put, List.setIfInBounds_toArray, List.set_cons_zero, List.set_cons_succ, i64_w, i32_w]; rfl)))
                refine seq_last rfl ?_
                simp only [List.getElem_toArray, List.getElem_cons_succ, List.getElem_cons_zero]
                have b2 := C2.cl
                have f2 := C2.fr
                clear hS x0 z0 hgr hbd hb7 hi1 hi2 hi3 hi4 HR H2 H1 HA
                go_wp2
                refine seq_done ?_
                have E2 := C2.set 1 (.slice V3 (j + 1) k3)
                have E2' : At (w11.setCell ⟨wu.heap.size, 1, none⟩ (.slice V3 (j + 1) k3)) (wu.heap.size) #[.slice (some ⟨ga, 0, none⟩) ng ka, .slice V3 (j + 1) k3] 51 := by simpa using E2
                have E_H1 := C_H1.far (p := ⟨wu.heap.size, 1, none⟩) (by show gp ≠ wu.heap.size; omega) (.slice V3 (j + 1) k3)
                have E_HA := C_HA.far (p := ⟨wu.heap.size, 1, none⟩) (by show ga ≠ wu.heap.size; omega) (.slice V3 (j + 1) k3)
                have F2 := own_set hown (own_ne_at hown C2 (by decide)) 1 (.slice V3 (j + 1) k3)
                have HBz := HBn.setCell (p := ⟨wu.heap.size, 1, none⟩) (by show wu.heap.size ≤ wu.heap.size; omega) (.slice V3 (j + 1) k3)
                have HRS := Aside0.mk (show raw1 (fun i => (g54 kq i).f0) (j + 1) = raw1 (fun i => (g54 kq i).f0) j ++ [.int .i64 x.f0] from by rw [raw1_succ]; show _ ++ ([.int .i64 (g54 kq j).f0] : List Value) = _; rw [HX.out])
                clear b2 f2 E2 C2 hown HBn HB C_H1 C_HA
                generalize w11.setCell ⟨wu.heap.size, 1, none⟩ (.slice V3 (j + 1) k3) = w12 at E2' F2 HBz E_H1 E_HA ⊢
                go_wp2
                go_roundg k1
                case measure => omega
                case rel => exact ⟨j + 1, _, by go_num, ⟨by have := HK.out; omega⟩, ⟨E_H1⟩, ⟨E_HA⟩, ⟨E2'⟩, ⟨by rw [HRS.out]; exact F2⟩, ⟨HBz⟩⟩
              · have hj : j = kq.length := by have := HK.out; omega
                subst hj
                obtain ⟨gm, kmX, cuM, hvm, hkm, hAM, hgm, hcM⟩ := raw1_of_own HR.out HKQ.out.1
                injection hvm with f1 f2 f3
                subst f1 f3
                obtain ⟨km, hkm2⟩ : ∃ n, n = k2 := ⟨k2, rfl⟩
                subst hkm2
                obtain ⟨n0, gt, hgl⟩ := List.exists_cons_of_ne_nil HGV.out
                have HGL := Aside0.mk hgl
                have HFR := Aside0.mk (C_of_raw1 HA.out (by have := HN.out; omega) HCA.out.2)
                have HMS := Aside0.mk (C_of_raw1 hAM (by have := HL.out; omega) hcM)
                replace HBW := Aside0.mk (below_then HBW.out HBW.out.size HB.out)
                replace H3 := Aside0.mk (H3.out.below HB.out)
                replace HJ := Aside0.mk (HJ.out.below HB.out)
                replace HT := Aside0.mk (Kd.C_below HT.out HB.out)
                have HNG := Aside0.mk HN.out.2.2.symm
                clear HB HC10 HR HK HGV HA hAM hkm hgm hcM hgl hga1 hgau hgpl hgxl HCA hga hlt HN
                generalize wu.heap.size = gu at H2 ⊢
                clear hge f2
                have b1 := H1.out.cl
                go_upto_region 23 with fail
                clear b1
                apply join4 (Fx := fun vF v8 v6 v7 w' => One w' w.heap.size v6 (n0 : Int) ∧ One w' w.heap.size v7 (op + (g54 kq 0).f0) ∧ Below wr.heap.size wr w')
                · intro CONT
                  refine region_tree (Tree.fork [(0, 0), (2, 0)] 1 3 (Tree.seg [(3, 1), (4, 1), (5, 0), (6, 0), (7, 0), (8, 0), (9, 0), (10, 0), (11, 0)]) (Tree.seg [(1, 1), (4, 1), (5, 0), (6, 0), (7, 0), (8, 0), (9, 0), (10, 0), (11, 0)])) [] (by kernel_rfl) rfl (by kernel_rfl) (by intro _ _ d _ _ h; cases d <;> exact h) ?_
                  refine tree_fork ?_
                  repeat (first | (refine seq_off (a' := ?_) rfl rfl ?_ ?_; rotate_left; (· simp only [List.getElem_toArray, List.getElem_cons_succ, List.getElem_cons_zero, Act.put, List.setIfInBounds_toArray, List.set_cons_zero, List.set_cons_succ, i64_w, i32_w]; rfl)) | (refine seq_read (v := ?_) (a' := ?_) rfl rfl (fun w' hS => ?_) ?_ ?_; rotate_left 2; (· have b1 := (H1.out.below hS).cl; have b3 := (H3.out.below hS).cl; have b2 := (H2.out.below hS).cl; go_simp; try with_reducible rfl); (· simp only [List.getElem_toArray, List.getElem_cons_succ, List.getElem_cons_zero, Act.put, List.setIfInBounds_toArray, List.set_cons_zero, List.set_cons_succ, i64_w, i32_w]; rfl)))
                  refine seq_done ?_
                  refine And.intro ?_ ?_
                  all_goals refine ⟨_, rfl, fun hS => ?_⟩
                  · simp only [List.getElem_toArray, List.getElem_cons_succ, List.getElem_cons_zero]
                    go_wp2_with (go_at_call 11; refine (floorOf_calls hr gr tubs op clo t.length (kll t) K2 d2 kt A3 c3 kc A4 c4 kq A5 c5 _ (kll_len t) (by have := Kd.C_below HJ.out.r2 hS; rwa [kll_len] at this) (Kd.C_below HJ.out.r3 hS) (Kd.C_below HJ.out.r4 hS) (Kd.C_below HJ.out.r5 hS) (by have := HTL.out; omega) (by have := HL.out; omega) (by have := HL.out; omega) (by have := HL.out; omega) cl ti cp qu HCL.out HTI.out HCP.out HQU.out).mono ?_; rintro e w5 ⟨B2, b2, B3, b3', B4, b4, B5, b5, rfl, hI, hb⟩)
                    have hS5 := below_step hS hb
                    refine ⟨hS5, tree_seg ?_⟩
                    repeat (first | (refine seq_off (a' := ?_) rfl rfl ?_ ?_; rotate_left; (· simp only [List.getElem_toArray, List.getElem_cons_succ, List.getElem_cons_zero, Act.put, List.setIfInBounds_toArray, List.set_cons_zero, List.set_cons_succ, i64_w, i32_w]; rfl)) | (refine seq_read (v := ?_) (a' := ?_) rfl rfl (fun w' hS => ?_) ?_ ?_; rotate_left 2; (· have b1 := (H1.out.below hS).cl; have b3 := (H3.out.below hS).cl; have b2 := (H2.out.below hS).cl; go_simp; try with_reducible rfl); (· simp only [List.getElem_toArray, List.getElem_cons_succ, List.getElem_cons_zero, Act.put, List.setIfInBounds_toArray, List.set_cons_zero, List.set_cons_succ, i64_w, i32_w]; rfl)))
                    refine seq_do rfl (fun _ => ?_)
                    simp only [List.getElem_toArray, List.getElem_cons_succ, List.getElem_cons_zero]
                    go_wp2
                    refine ⟨below_alloc hS5 _, seq_at2 (g := w5.heap.size) (cs := #[.int .i64 0]) (t := 3) (below_alloc hS5 _) (below_alloc (Below.refl w5.heap.size w5) _) (At.new w5 _ _) fun w6 hS6 hb6 hA6 => ?_⟩
                    refine seq_do rfl (fun _ => ?_)
                    simp only [List.getElem_toArray, List.getElem_cons_succ, List.getElem_cons_zero]
                    go_wp2_with (go_at_call 12; refine (playOf_calls (gi t 0) (gi t 1) (gi t 2) (gi t 3) hr gr tubs op clo n0 gt ng kq.length (fun i => (g54 kq i).f0) (some ⟨ga, 0, none⟩) ka (some ⟨gm, 0, none⟩) km (some ⟨w5.heap.size, 0, none⟩) 1 _ (hI.below hb6) HF.out HGL.out (Kd.C_below HFR.out hS6) HNG.out (Kd.C_below HMS.out hS6) (by rw [← HQU.out, List.length_map]) (fun j _ => by rw [← HQU.out, g53_m]; rfl) (by rw [← HQU.out, List.length_map]; exact HKQ.out.1) (C_of_at hA6 [0] (by simp) (by intro j x hx; match j, hx with | 0, hx => (simp at hx; subst hx; rfl))) (Nat.le_refl 1)).mono ?_; rintro e w7 ⟨v6, v7, rfl, hO6, hO7, hb7⟩)
                    refine ⟨below_step hS6 hb7, ?_⟩
                    repeat (first | (refine seq_off (a' := ?_) rfl rfl ?_ ?_; rotate_left; (· simp only [List.getElem_toArray, List.getElem_cons_succ, List.getElem_cons_zero, Act.put, List.setIfInBounds_toArray, List.set_cons_zero, List.set_cons_succ, i64_w, i32_w]; rfl)) | (refine seq_read (v := ?_) (a' := ?_) rfl rfl (fun w' hS => ?_) ?_ ?_; rotate_left 2; (· have b1 := (H1.out.below hS).cl; have b3 := (H3.out.below hS).cl; have b2 := (H2.out.below hS).cl; go_simp; try with_reducible rfl); (· simp only [List.getElem_toArray, List.getElem_cons_succ, List.getElem_cons_zero, Act.put, List.setIfInBounds_toArray, List.set_cons_zero, List.set_cons_succ, i64_w, i32_w]; rfl)))
                    refine seq_done ?_
                    generalize (.agg #[.int .i64 hr, .int .i64 gr, .slice B2 cl.length b2, .slice B3 ti.length b3', .slice B4 cp.length b4, .int .i64 tubs, .int .i64 op, .int .i64 clo, .slice B5 qu.length b5] : Value) = vF
                    generalize (.slice (some ⟨w5.heap.size, 0, none⟩) 1 1 : Value) = v8
                    exact CONT vF v8 v6 v7 w7 ⟨hO6.base (by have h1 := HBW.out.size; have h2 := (hS6).size; omega), hO7.base (by have h1 := HBW.out.size; have h2 := (hS6).size; omega), below_step (hS6) hb7⟩
                  · simp only [List.getElem_toArray, List.getElem_cons_succ, List.getElem_cons_zero]
                    go_wp2
                    refine ⟨below_alloc hS _, tree_at1 (g := wr.heap.size) (cs := #[.int .i64 0]) (t := 3) (below_alloc hS _) (by first | exact At.new wr.drew _ _ | exact (At.new wr _ _).drew) fun w4 hS4 hA4 => ?_⟩
                    clear hS
                    refine tree_seg ?_
                    refine seq_do rfl (fun _ => ?_)
                    simp only [List.getElem_toArray, List.getElem_cons_succ, List.getElem_cons_zero]
                    go_wp2_with (go_at_call 11; refine (floorOf_calls hr gr tubs op clo t.length (kll t) K2 d2 kt A3 c3 kc A4 c4 kq A5 c5 _ (kll_len t) (by have := Kd.C_below HJ.out.r2 hS4; rwa [kll_len] at this) (Kd.C_below HJ.out.r3 hS4) (Kd.C_below HJ.out.r4 hS4) (Kd.C_below HJ.out.r5 hS4) (by have := HTL.out; omega) (by have := HL.out; omega) (by have := HL.out; omega) (by have := HL.out; omega) cl ti cp qu HCL.out HTI.out HCP.out HQU.out).mono ?_; rintro e w5 ⟨B2, b2, B3, b3', B4, b4, B5, b5, rfl, hI, hb⟩)
                    have hS5 := below_step hS4 hb
                    have hA5 := hA4.below hb
                    refine ⟨hS5, ?_⟩
                    refine seq_do rfl (fun _ => ?_)
                    simp only [List.getElem_toArray, List.getElem_cons_succ, List.getElem_cons_zero]
                    go_wp2_with (go_at_call 12; refine (playOf_calls (gi t 0) (gi t 1) (gi t 2) (gi t 3) hr gr tubs op clo n0 gt ng kq.length (fun i => (g54 kq i).f0) (some ⟨ga, 0, none⟩) ka (some ⟨gm, 0, none⟩) km (some ⟨wr.heap.size, 0, none⟩) 1 _ hI HF.out HGL.out (Kd.C_below HFR.out hS5) HNG.out (Kd.C_below HMS.out hS5) (by rw [← HQU.out, List.length_map]) (fun j _ => by rw [← HQU.out, g53_m]; rfl) (by rw [← HQU.out, List.length_map]; exact HKQ.out.1) (C_of_at hA5 [0] (by simp) (by intro j x hx; match j, hx with | 0, hx => (simp at hx; subst hx; rfl))) (Nat.le_refl 1)).mono ?_; rintro e w7 ⟨v6, v7, rfl, hO6, hO7, hb7⟩)
                    refine ⟨below_step hS5 hb7, ?_⟩
                    repeat (first | (refine seq_off (a' := ?_) rfl rfl ?_ ?_; rotate_left; (· simp only [List.getElem_toArray, List.getElem_cons_succ, List.getElem_cons_zero, Act.put, List.setIfInBounds_toArray, List.set_cons_zero, List.set_cons_succ, i64_w, i32_w]; rfl)) | (refine seq_read (v := ?_) (a' := ?_) rfl rfl (fun w' hS => ?_) ?_ ?_; rotate_left 2; (· have b1 := (H1.out.below hS).cl; have b3 := (H3.out.below hS).cl; have b2 := (H2.out.below hS).cl; go_simp; try with_reducible rfl); (· simp only [List.getElem_toArray, List.getElem_cons_succ, List.getElem_cons_zero, Act.put, List.setIfInBounds_toArray, List.set_cons_zero, List.set_cons_succ, i64_w, i32_w]; rfl)))
                    refine seq_done ?_
                    generalize (.agg #[.int .i64 hr, .int .i64 gr, .slice B2 cl.length b2, .slice B3 ti.length b3', .slice B4 cp.length b4, .int .i64 tubs, .int .i64 op, .int .i64 clo, .slice B5 qu.length b5] : Value) = vF
                    generalize (.slice (some ⟨wr.heap.size, 0, none⟩) 1 1 : Value) = v8
                    exact CONT vF v8 v6 v7 w7 ⟨hO6.base (by have h1 := HBW.out.size; have h2 := (hS5).size; omega), hO7.base (by have h1 := HBW.out.size; have h2 := (hS5).size; omega), below_step (hS5) hb7⟩
                · intro vF v8 v6 v7 w9 hF
                  obtain ⟨hO6, hO7, hbw⟩ := hF
                  obtain ⟨g6, k6, cu6, hv6, hA6, hc6, hg6⟩ := hO6.out
                  obtain ⟨g7, k7, cu7, hv7, hA7, hc7, hg7⟩ := hO7.out
                  subst hv6 hv7
                  replace H1 := Aside0.mk (H1.out.below hbw)
                  replace H3 := Aside0.mk (H3.out.below hbw)
                  replace HJ := Aside0.mk (HJ.out.below hbw)
                  replace HT := Aside0.mk (Kd.C_below HT.out hbw)
                  replace HBW := Aside0.mk (below_then HBW.out HBW.out.size hbw)
                  have hte := HIT.out.1
                  have hlb : 0 ≤ (g54 kq 0).f0 ∧ (g54 kq 0).f0 ≤ 240 := by have := HFL.out.qv 0 HKQ.out.1; omega
                  have hob : 0 ≤ op ∧ op ≤ 1439 := by have h1 := HFL.out.o0; have h2 := HFL.out.oc; have h3 := HFL.out.c1; omega
                  obtain ⟨lg, hlg⟩ : ∃ l, (g54 kq 0).f0 = l := ⟨_, rfl⟩
                  rw [hlg] at hlb hc7
                  obtain ⟨dn, hdn⟩ : ∃ d, op + lg = d := ⟨_, rfl⟩
                  rw [hdn] at hc7
                  obtain ⟨k, hkm, hkl⟩ : ∃ k : Nat, Int.tmod z (t.length : Int) = (k : Int) ∧ k < t.length := by
                    have := HZ.out
                    have hl := HKQ.out.2
                    have hl2 := hte.1
                    refine ⟨(Int.tmod z (t.length : Int)).toNat, ?_, ?_⟩
                    · rw [Int.toNat_of_nonneg (Int.tmod_nonneg _ this.1)]
                    · have h2 := Int.tmod_lt_of_pos z (show (0 : Int) < t.length by omega)
                      have h3 := Int.tmod_nonneg (t.length : Int) this.1
                      omega
                  have hgk := hte.2 k (by rw [← hte.1]; exact hkl)
                  have hgb := HFL.out.H.V.at k (by rw [← hte.1]; exact hkl)
                  obtain ⟨adt, et, xt⟩ := at_nat HT.out k hkl
                  cases et
                  obtain ⟨gk_, hgke⟩ : ∃ v, gi t k = v := ⟨_, rfl⟩
                  rw [hgke] at xt hgk
                  obtain ⟨adq, eq_, x0, _⟩ := at54 HJ.out.r5 0 HKQ.out.1
                  cases eq_
                  rw [Nat.zero_mul, add_zero, hlg] at x0
                  have HQX := Aside0.mk x0
                  have HTX := Aside0.mk xt
                  have H6 := Aside0.mk ((hA6.cl 0).trans hc6)
                  have H7 := Aside0.mk ((hA7.cl 0).trans hc7)
                  have e1 : wrap64 (dn - lg) = op := by rw [← hdn, w64 (by omega) (by omega)]; omega
                  have e2 : wrap64 (op + gk_) = op + gk_ := w64 (by omega) (by omega)
                  have e3 : wrap64 (dn + gk_) = dn + gk_ := w64 (by omega) (by omega)
                  have HEQ := Aside0.mk (And.intro hlg (And.intro hdn (And.intro hgke (And.intro hlb (And.intro hob (And.intro hgk hgb))))))
                  have HEW := Aside0.mk (And.intro e1 (And.intro e2 e3))
                  have HKM := Aside0.mk (And.intro hkm hkl)
                  have hz1 : ((t.length : Int) == 0) = false := by rw [beq_eq_false_iff_ne]; omega
                  have htn : ¬ t = [] := by intro h; rw [h] at hkl; exact absurd hkl (Nat.not_lt_zero _)
                  have hzw : wrap64 z = z := by have := HZ.out; exact w64 (by omega) (by omega)
                  have hzk : wrap64 (k : Int) = k := by have := HTL.out; exact w64 (by omega) (by omega)
                  have hq1 : 0 < kq.length := HKQ.out.1
                  have b1 := H1.out.cl
                  clear hO6 hO7 hbw hA6 hc6 hg6 hA7 hc7 hg7 hte hlb hob hlg hdn hkl hgk hgb hgke e1 e2 e3 xt H2 HFR HMS
                  go_upto_region 28 with fail
                  clear b1 x0 hq1 hz1 hzw hzk hkm htn
                  refine region_b [(0, 0), (1, 0), (2, 0), (3, 0), (4, 0), (5, 0), (6, 0), (7, 0), (8, 0), (9, 0), (10, 0), (11, 0), (12, 0), (13, 0), (14, 0), (15, 0), (16, 0), (17, 0), (18, 0), (19, 0)] (by kernel_rfl) rfl (by kernel_rfl) (by intro _ _ d _ _ h; cases d <;> exact h) ?_
                  repeat (first | (refine seq_off (a' := ?_) rfl rfl ?_ ?_; rotate_left; (· simp only [List.getElem_toArray, List.getElem_cons_succ, List.getElem_cons_zero, Act.put, List.setIfInBounds_toArray, List.set_cons_zero, List.set_cons_succ, i64_w, i32_w]; rfl)) | (refine seq_read (v := ?_) (a' := ?_) rfl rfl (fun w' hS => ?_) ?_ ?_; rotate_left 2; (· have x7 := cell_b hS H7.out; have xt := cell_b hS HTX.out; have hki : (k : Int) < t.length := (by have := HKM.out.2; omega); obtain ⟨e1, e2, e3⟩ := HEW.out; go_simp; try with_reducible rfl); (· simp only [List.getElem_toArray, List.getElem_cons_succ, List.getElem_cons_zero, Act.put, List.setIfInBounds_toArray, List.set_cons_zero, List.set_cons_succ, i64_w, i32_w]; rfl)))
                  refine seq_done ?_
                  have hd9 := (Below.refl w9.heap.size w9).drew
                  replace H3 := Aside0.mk (H3.out.below hd9)
                  replace HJ := Aside0.mk (HJ.out.below hd9)
                  replace HT := Aside0.mk (Kd.C_below HT.out hd9)
                  replace H6 := Aside0.mk (cell_b hd9 H6.out)
                  replace H7 := Aside0.mk (cell_b hd9 H7.out)
                  replace HBW := Aside0.mk (below_then HBW.out HBW.out.size hd9)
                  clear hd9 H1 HQX HTX
                  generalize w9.drew = wx at H3 HJ HT H6 H7 HBW ⊢
                  generalize hbb : op + gk_ = bb
                  generalize hee : dn + gk_ = ee
                  have hmem : n0 ∈ glv ti cp tubs.toNat := by rw [HGL.out]; exact List.mem_cons_self
                  unfold glv at hmem
                  obtain ⟨hm1, hm2⟩ := List.mem_filter.1 hmem
                  rw [List.mem_range] at hm1
                  have hop : opn (kt.map m73) (kc.map m74) (n0 : Int) = false := by rw [HTI.out, HCP.out]; simpa using hm2
                  have ht4 := HFL.out.t4
                  obtain ⟨hlg, hdn, hgke, hlb, hrest⟩ := HEQ.out
                  rename_i aK
                  exact aK _ _ (tail29 kk HKK.out HFL.out HIT.out HOP.out hop (by omega) hlb hdn HKM.out.2 (by rw [hgke]; exact hbb) (by rw [hgke]; exact hee) HBW.out H3.out HJ.out H6.out H7.out _ rfl)



end Go.Proofs.Ytgdbnioodimlfaa.Wk
