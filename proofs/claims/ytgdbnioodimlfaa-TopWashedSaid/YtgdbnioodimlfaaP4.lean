/- The contract of Floor of posserlaw07. Conditions stand in each theorem. -/
import Derived.Test.YtgdbnioodimlfaaSeq
import Derived.Test.YtgdbnioodimlfaaP3
import Derived.OwnWalk
namespace Go.Proofs.Ytgdbnioodimlfaa.Wk
open Go.RowKit Go.Proofs.YtgdbnioodimlfaaW.PrintWords Go.Proofs.YtgdbnioodimlfaaW.PrintLast Go.Proofs.YtgdbnioodimlfaaW.PrintMore Go.Proofs.Ytgdbnioodimlfaa.PTopWashed Go.Proofs.Ytgdbnioodimlfaa.Sq
attribute [local go_sem] max2_int min2_int max_two min_two max_three min_three max_four min_four
set_option linter.unusedVariables false
set_option linter.unusedSimpArgs false

theorem seq_fact {P : Program} {ops : Array Oper} {Q : Exit → Act → World → Prop} {S : World → Prop} {ks : Plan} {a : Act} {w : World} {F : World → Prop} (hF : F w) (h : ∀ w', F w' → wpSeq P ops Q S ks a w') : wpSeq P ops Q S ks a w := h w hF

set_option maxHeartbeats 2000000 in
theorem Floor_calls (hr gr tubs op clo : Int) (kl : List S54) (A2 : Option Addr) (c2 : Nat) (kt : List S58) (A3 : Option Addr) (c3 : Nat) (kc : List S60) (A4 : Option Addr) (c4 : Nat) (kq : List S54) (A5 : Option Addr) (c5 : Nat) (w : World) (h54 : Kd.C k54 w A2 kl.length kl) (h58 : Kd.C k58 w A3 kt.length kt) (h60 : Kd.C k60 w A4 kc.length kc) (hq54 : Kd.C k54 w A5 kq.length kq) (l54 : kl.length ≤ 1000) (l58 : kt.length ≤ 1000) (l60 : kc.length ≤ 1000) (lq : kq.length ≤ 1000) :
    Calls Try.prog 11 #[.agg #[.int .i64 hr, .int .i64 gr, .slice A2 kl.length c2, .slice A3 kt.length c3, .slice A4 kc.length c4, .int .i64 tubs, .int .i64 op, .int .i64 clo, .slice A5 kq.length c5]] w fun e w' => ∃ v2 v3 v4 v8, e = .returned (.agg #[.int .i64 hr, .int .i64 gr, v2, v3, v4, .int .i64 tubs, .int .i64 op, .int .i64 clo, v8]) ∧ w'.ownsRow w.heap.size 65 2 v2 kl.length (raw2 (fun i => (g54 kl i).f0) (fun i => (g54 kl i).f1) kl.length) ∧ w'.ownsRow w.heap.size 73 2 v3 kt.length (raw2 (fun i => (g58 kt i).f0) (fun i => (g58 kt i).f1) kt.length) ∧ w'.ownsRow w.heap.size 74 3 v4 kc.length (raw3 (fun i => (g60 kc i).f0) (fun i => (g60 kc i).f1) (fun i => (g60 kc i).f2) kc.length) ∧ w'.ownsRow w.heap.size 53 2 v8 kq.length (raw2 (fun i => (g54 kq i).f0) (fun i => (g54 kq i).f1) kq.length) ∧ Below w.heap.size w w' := by
  have H54 := Aside0.mk h54
  have H58 := Aside0.mk h58
  have H60 := Aside0.mk h60
  have HQ := Aside0.mk hq54
  clear h54 h58 h60 hq54
  go_enter Try.func11, Try.ntmps11
  go_upto_region 1 with fail
  refine wp_new2 fun w1 B1 B2 HB HZ => ?_
  have HZW := Aside0.mk (show w.heap.size ≤ w1.heap.size from by have := HZ.out; omega)
  refine region_tree (Tree.fork [(0, 0), (1, 0), (3, 0), (4, 0), (5, 0), (6, 0), (7, 0), (8, 0)] 2 10 (Tree.seg [(9, 0), (10, 1), (11, 2)]) (Tree.seg [(2, 1), (9, 0), (11, 2)])) [11] (by kernel_rfl) rfl (by kernel_rfl) (by intro _ _ d _ _ h; cases d <;> exact h) ?_
  refine tree_fork ?_
  repeat (first | (refine seq_off (a' := ?_) rfl rfl ?_ ?_; rotate_left; (· simp only [List.getElem_toArray, List.getElem_cons_succ, List.getElem_cons_zero, Act.put, List.setIfInBounds_toArray, List.set_cons_zero, List.set_cons_succ, i64_w, i32_w]; rfl)) | (refine seq_read (v := ?_) (a' := ?_) rfl rfl (fun w' hS => ?_) ?_ ?_; rotate_left 2; (· have b1 := (B1.below hS).cl; go_simp; try with_reducible rfl); (· simp only [List.getElem_toArray, List.getElem_cons_succ, List.getElem_cons_zero, Act.put, List.setIfInBounds_toArray, List.set_cons_zero, List.set_cons_succ, i64_w, i32_w]; rfl)))
  refine seq_done ?_
  refine And.intro ?_ ?_
  all_goals refine ⟨_, rfl, fun hS => ?_⟩
  · simp only [List.getElem_toArray, List.getElem_cons_succ, List.getElem_cons_zero]
    go_wp2_with (go_at_call 15; refine (House_calls hr gr kl A2 c2 kt A3 c3 kc A4 c4 _ (Kd.C_below H54.out (below_then HB.out HB.out.size hS)) (Kd.C_below H58.out (below_then HB.out HB.out.size hS)) (Kd.C_below H60.out (below_then HB.out HB.out.size hS)) l54 l58 l60).mono ?_; rintro e w5 ⟨v2, v3, v4, rfl, h2, h3, h4, hb⟩; have hS5 := below_step hS hb)
    obtain ⟨W2, d2, hv2⟩ := own_form h2
    obtain ⟨W3, d3, hv3⟩ := own_form h3
    obtain ⟨W4, d4, hv4⟩ := own_form h4
    subst hv2 hv3 hv4
    refine ⟨hS5, tree_seg ?_⟩
    have HS5 := Aside0.mk hS5
    clear hS hS5 hb
    repeat (first | (refine seq_off (a' := ?_) rfl rfl ?_ ?_; rotate_left; (· simp only [List.getElem_toArray, List.getElem_cons_succ, List.getElem_cons_zero, Act.put, List.setIfInBounds_toArray, List.set_cons_zero, List.set_cons_succ, i64_w, i32_w]; rfl)) | (refine seq_read (v := ?_) (a' := ?_) rfl rfl (fun w' hS => ?_) ?_ ?_; rotate_left 2; (· have b1 := (B1.below hS).cl; go_simp; try with_reducible rfl); (· simp only [List.getElem_toArray, List.getElem_cons_succ, List.getElem_cons_zero, Act.put, List.setIfInBounds_toArray, List.set_cons_zero, List.set_cons_succ, i64_w, i32_w]; rfl)))
    refine seq_do rfl (fun hS => ?_)
    simp only [List.getElem_toArray, List.getElem_cons_succ, List.getElem_cons_zero]
    go_wp2
    refine ⟨below_alloc HS5.out _, ?_⟩
    refine seq_last rfl ?_
    simp only [List.getElem_toArray, List.getElem_cons_succ, List.getElem_cons_zero]
    go_wp2
    refine seq_fact (F := fun w' => At w' w.heap.size #[.int .i64 hr, .int .i64 gr, .slice A2 kl.length c2, .slice A3 kt.length c3, .slice A4 kc.length c4, .int .i64 tubs, .int .i64 op, .int .i64 clo, .slice A5 kq.length c5] 28 ∧ At w' (w.heap.size + 1) #[.int .i64 0, .int .i64 0, .slice none 0 0, .slice none 0 0, .slice none 0 0, .int .i64 0, .int .i64 0, .int .i64 0, .slice none 0 0] 48 ∧ At w' w5.heap.size #[.int .i64 hr, .int .i64 gr, .slice W2 kl.length d2, .slice W3 kt.length d3, .slice W4 kc.length d4, .int .i64 tubs, .int .i64 op, .int .i64 clo, .slice none 0 0] 48 ∧ w'.ownsRow w.heap.size 65 2 (.slice W2 kl.length d2) kl.length (raw2 (fun i => (g54 kl i).f0) (fun i => (g54 kl i).f1) kl.length) ∧ w'.ownsRow w.heap.size 73 2 (.slice W3 kt.length d3) kt.length (raw2 (fun i => (g58 kt i).f0) (fun i => (g58 kt i).f1) kt.length) ∧ w'.ownsRow w.heap.size 74 3 (.slice W4 kc.length d4) kc.length (raw3 (fun i => (g60 kc i).f0) (fun i => (g60 kc i).f1) (fun i => (g60 kc i).f2) kc.length) ∧ Below w.heap.size w w') ⟨(B1.below HS5.out).alloc _, (B2.below HS5.out).alloc _, At.new _ _ _, own_alloc (own_base h2 HZW.out) _, own_alloc (own_base h3 HZW.out) _, own_alloc (own_base h4 HZW.out) _, below_alloc (below_then HB.out HB.out.size HS5.out) _⟩ fun w9 hF => ?_
    have hbz : w.heap.size + 1 < w5.heap.size := by have h1 := HZ.out; have h2 := HS5.out.size; omega
    clear B1 B2 HB h2 h3 h4 HS5 hS
    generalize w5.heap.size = b at hF hbz ⊢
    obtain ⟨A0, A1, A2_, Ra, Rb, Rc, Rd⟩ := hF
    have H0 := Aside0.mk A0
    have H1 := Aside0.mk A1
    have H2 := Aside0.mk A2_
    have HA := Aside0.mk Ra
    have HB3 := Aside0.mk Rb
    have HC4 := Aside0.mk Rc
    have HB := Aside0.mk Rd
    clear A0 A1 A2_ Ra Rb Rc Rd
    refine seq_done ?_
    go_wp2
    go_loopg [4] (kq.length) (fun gq vc w' => ∃ (j : Nat) (v2 : Value), vc = .int .i64 (j : Int) ∧ Aside0 (j + gq = kq.length) ∧ Aside0 (At w' (w.heap.size) #[.int .i64 hr, .int .i64 gr, .slice A2 kl.length c2, .slice A3 kt.length c3, .slice A4 kc.length c4, .int .i64 tubs, .int .i64 op, .int .i64 clo, .slice A5 kq.length c5] 28) ∧ Aside0 (At w' (w.heap.size + 1) #[.int .i64 0, .int .i64 0, .slice none 0 0, .slice none 0 0, .slice none 0 0, .int .i64 0, .int .i64 0, .int .i64 0, .slice none 0 0] 48) ∧ Aside0 (At w' (b) #[.int .i64 hr, .int .i64 gr, .slice W2 kl.length d2, .slice W3 kt.length d3, .slice W4 kc.length d4, .int .i64 tubs, .int .i64 op, .int .i64 clo, v2] 48) ∧ Aside0 (w'.ownsRow w.heap.size 53 2 v2 j (raw2 (fun i => (g54 kq i).f0) (fun i => (g54 kq i).f1) j)) ∧ Aside0 (w'.ownsRow w.heap.size 65 2 (.slice W2 kl.length d2) (kl.length) (raw2 (fun i => (g54 kl i).f0) (fun i => (g54 kl i).f1) kl.length)) ∧ Aside0 (w'.ownsRow w.heap.size 73 2 (.slice W3 kt.length d3) (kt.length) (raw2 (fun i => (g58 kt i).f0) (fun i => (g58 kt i).f1) kt.length)) ∧ Aside0 (w'.ownsRow w.heap.size 74 3 (.slice W4 kc.length d4) (kc.length) (raw3 (fun i => (g60 kc i).f0) (fun i => (g60 kc i).f1) (fun i => (g60 kc i).f2) kc.length)) ∧ Aside0 (Below w.heap.size w w'))
    case atStart => exact ⟨0, .slice none 0 0, rfl, ⟨by omega⟩, H0, H1, H2, ⟨World.ownsRow_nil _ _ _ _⟩, HA, HB3, HC4, HB⟩
    case round =>
      clear H0 H1 H2 HA HB3 HC4 HB
      obtain ⟨j, v2, rfl, HK, H0, H1, H2, HR, HA, HB3, HC4, HB⟩ := hrel
      obtain ⟨V2, k2, hv2⟩ := own_form HR.out
      subst hv2
      by_cases hlt : j < kq.length
      · obtain ⟨k1, rfl⟩ : ∃ k1, gk = k1 + 1 := ⟨gk - 1, by have := HK.out; omega⟩
        obtain ⟨ad, ee, x0, x1⟩ := at54 (Kd.C_below HQ.out HB.out) j hlt
        cases ee
        generalize hxx : g54 kq j = x at x0 x1
        have HX := Aside0.mk hxx
        clear hxx
        have hadlt : ad.block < w.heap.size := by
          obtain ⟨ad', ee', y0, _⟩ := at54 HQ.out j hlt
          cases ee'
          have h := World.block_lt_of_cell? _ _ y0
          rwa [add_block] at h
        have hj2 : (j : Int) < kq.length := by omega
        have b0 := H0.out.cl
        have hl0 := H0.out.lt
        go_wp2
        clear b0 hl0
        refine region_seq [(0, 0), (1, 0), (2, 0), (3, 0), (4, 0), (5, 0), (6, 0), (7, 1), (8, 1), (9, 1), (10, 0), (11, 2)] (fun w' => At w' (b) #[.int .i64 hr, .int .i64 gr, .slice W2 kl.length d2, .slice W3 kt.length d3, .slice W4 kc.length d4, .int .i64 tubs, .int .i64 op, .int .i64 clo, .slice V2 j k2] 48 ∧ At w' (w.heap.size) #[.int .i64 hr, .int .i64 gr, .slice A2 kl.length c2, .slice A3 kt.length c3, .slice A4 kc.length c4, .int .i64 tubs, .int .i64 op, .int .i64 clo, .slice (some ad) kq.length c5] 28 ∧ At w' (w.heap.size + 1) #[.int .i64 0, .int .i64 0, .slice none 0 0, .slice none 0 0, .slice none 0 0, .int .i64 0, .int .i64 0, .int .i64 0, .slice none 0 0] 48 ∧ w'.cell? (ad.add (j * 2)) = some (.int .i64 x.f0) ∧ w'.cell? ⟨(ad.add (j * 2)).block, (ad.add (j * 2)).off + 1, none⟩ = some (.int .i64 x.f1)) (by kernel_rfl) rfl (by kernel_rfl) (by intro _ _ d _ _ h; cases d <;> exact h) ⟨H2.out.drew, H0.out.drew, H1.out.drew, x0, x1⟩ ?_
        repeat (first | (refine seq_off (a' := ?_) rfl rfl ?_ ?_; rotate_left; (· simp only [List.getElem_toArray, List.getElem_cons_succ, List.getElem_cons_zero, Act.put, List.setIfInBounds_toArray, List.set_cons_zero, List.set_cons_succ, i64_w, i32_w]; rfl)) | (refine seq_read (v := ?_) (a' := ?_) rfl rfl (fun w' hS => ?_) ?_ ?_; rotate_left 2; (· obtain ⟨S2, S_H0, S_H1, y0, y1⟩ := hS; have b2 := S2.cl; have b_H0 := S_H0.cl; have b_H1 := S_H1.cl; go_simp; try with_reducible rfl); (· simp only [List.getElem_toArray, List.getElem_cons_succ, List.getElem_cons_zero, Act.put, List.setIfInBounds_toArray, List.set_cons_zero, List.set_cons_succ, i64_w, i32_w]; rfl)))
        refine seq_do rfl (fun hS => ?_)
        simp only [List.getElem_toArray, List.getElem_cons_succ, List.getElem_cons_zero]
        go_wp2_with (go_at_call 25; refine (to25_calls x.f0 x.f1 _).mono ?_; rintro e w7 ⟨rfl, hb⟩)
        refine ⟨by obtain ⟨S2, S_H0, S_H1, y0, y1⟩ := hS; exact ⟨S2.below hb, S_H0.below hb, S_H1.below hb, cell_b hb y0, cell_b hb y1⟩, ?_⟩
        have hb7 : Below wr.heap.size wr w7 := below_step (Below.refl _ _).drew hb
        clear hS hb
        repeat (first | (refine seq_off (a' := ?_) rfl rfl ?_ ?_; rotate_left; (· simp only [List.getElem_toArray, List.getElem_cons_succ, List.getElem_cons_zero, Act.put, List.setIfInBounds_toArray, List.set_cons_zero, List.set_cons_succ, i64_w, i32_w]; rfl)) | (refine seq_read (v := ?_) (a' := ?_) rfl rfl (fun w' hS => ?_) ?_ ?_; rotate_left 2; (· obtain ⟨S2, S_H0, S_H1, y0, y1⟩ := hS; have b2 := S2.cl; have b_H0 := S_H0.cl; have b_H1 := S_H1.cl; go_simp; try with_reducible rfl); (· simp only [List.getElem_toArray, List.getElem_cons_succ, List.getElem_cons_zero, Act.put, List.setIfInBounds_toArray, List.set_cons_zero, List.set_cons_succ, i64_w, i32_w]; rfl)))
        refine seq_do rfl (fun hS => ?_)
        simp only [List.getElem_toArray, List.getElem_cons_succ, List.getElem_cons_zero]
        go_wp2
        refine ⟨by obtain ⟨S2, S_H0, S_H1, y0, y1⟩ := hS; exact ⟨S2.alloc _, S_H0.alloc _, S_H1.alloc _, cell_b (below_alloc (Below.refl _ _) _) y0, cell_b (below_alloc (Below.refl _ _) _) y1⟩, ?_⟩
        refine seq_do rfl (fun hS => ?_)
        simp only [List.getElem_toArray, List.getElem_cons_succ, List.getElem_cons_zero]
        obtain ⟨ie, hi1, hi2, hi3, hi4⟩ := info53'
        have hbd : Below wr.heap.size wr (w7.alloc (.cells #[.int .i64 x.f0, .int .i64 x.f1] 53)) := below_alloc hb7 _
        refine wpList_append_own _ rfl (.tmp 23) (.tmp 30) 38 rfl w.heap.size 53 ie _ 2 16 Try.underlying38 hi1 hi2 hi3 hi4 rfl (by omega) (.slice V2 j k2) j (raw2 (fun i => (g54 kq i).f0) (fun i => (g54 kq i).f1) j) rfl (own_below HR.out hbd) ⟨w7.heap.size, 0, none⟩ 1 1 [.int .i64 x.f0, .int .i64 x.f1] rfl rfl ?news (by simp [Value.oneCell']) (by unfold maxLen; omega) (by omega) ?base ?_
        case news =>
          intro k u hk
          match k, hk with
          | 0, hk => simp at hk; subst hk; simp [Addr.add, (At.new w7 _ _).cl]
          | 1, hk => simp at hk; subst hk; simp [Addr.add, (At.new w7 _ _).cl]
        case base => have h1 := HB.out.size; have h2 := hbd.size; omega
        intro v2' w11 hown hgr _
        obtain ⟨V3, k3, hv⟩ := own_form hown
        subst hv
        have HBn := pw_below_grown (below_then HB.out HB.out.size hbd) _ (by have h1 := HB.out.size; have h2 := hbd.size; omega) hgr (own_ge HR.out)
        have C2 := at_grown (H2.out.below hbd) hgr (own_ne_at (own_below HR.out hbd) (H2.out.below hbd) (by decide))
        have C_H0 := at_grown (H0.out.below hbd) hgr (own_ne_at (own_below HR.out hbd) (H0.out.below hbd) (by decide))
        have C_H1 := at_grown (H1.out.below hbd) hgr (own_ne_at (own_below HR.out hbd) (H1.out.below hbd) (by decide))
        have D_HA := own_grown (own_below HA.out hbd) hgr (own_ne_own (own_below HA.out hbd) (own_below HR.out hbd) (by decide))
        have D_HB3 := own_grown (own_below HB3.out hbd) hgr (own_ne_own (own_below HB3.out hbd) (own_below HR.out hbd) (by decide))
        have D_HC4 := own_grown (own_below HC4.out hbd) hgr (own_ne_own (own_below HC4.out hbd) (own_below HR.out hbd) (by decide))
        have z0 := cell_grown (cell_b hbd x0) hgr (by intro e; have := own_ge HR.out _ e.symm; have e2 := add_block ad j; simp only [add_block] at *; omega)
        have z1 := cell_grown (cell_b hbd x1) hgr (by intro e; have := own_ge HR.out _ e.symm; have e2 := add_block ad j; simp only [add_block] at *; omega)
        refine ⟨⟨C2, C_H0, C_H1, z0, z1⟩, ?_⟩
        repeat (first | (refine seq_off (a' := ?_) rfl rfl ?_ ?_; rotate_left; (· simp only [List.getElem_toArray, List.getElem_cons_succ, List.getElem_cons_zero, Act.put, List.setIfInBounds_toArray, List.set_cons_zero, List.set_cons_succ, i64_w, i32_w]; rfl)) | (refine seq_read (v := ?_) (a' := ?_) rfl rfl (fun w' hS => ?_) ?_ ?_; rotate_left 2; (· obtain ⟨S2, S_H0, S_H1, y0, y1⟩ := hS; have b2 := S2.cl; have b_H0 := S_H0.cl; have b_H1 := S_H1.cl; go_simp; try with_reducible rfl); (· simp only [List.getElem_toArray, List.getElem_cons_succ, List.getElem_cons_zero, Act.put, List.setIfInBounds_toArray, List.set_cons_zero, List.set_cons_succ, i64_w, i32_w]; rfl)))
        refine seq_last rfl ?_
        simp only [List.getElem_toArray, List.getElem_cons_succ, List.getElem_cons_zero]
        have b2 := C2.cl
        have f2 := C2.fr
        clear hS x0 z0 x1 z1 hgr hbd hb7 hi1 hi2 hi3 hi4 HR H2 H0 H1 HA HB3 HC4
        go_wp2
        refine seq_done ?_
        have E2 := C2.set 8 (.slice V3 (j + 1) k3)
        have E2' : At (w11.setCell ⟨b, 8, none⟩ (.slice V3 (j + 1) k3)) (b) #[.int .i64 hr, .int .i64 gr, .slice W2 kl.length d2, .slice W3 kt.length d3, .slice W4 kc.length d4, .int .i64 tubs, .int .i64 op, .int .i64 clo, .slice V3 (j + 1) k3] 48 := by simpa using E2
        have E_H0 := C_H0.far (p := ⟨b, 8, none⟩) (by show w.heap.size ≠ b; omega) (.slice V3 (j + 1) k3)
        have E_H1 := C_H1.far (p := ⟨b, 8, none⟩) (by show w.heap.size + 1 ≠ b; omega) (.slice V3 (j + 1) k3)
        have F_HA := own_set D_HA (own_ne_at D_HA C2 (by decide)) 8 (.slice V3 (j + 1) k3)
        have F_HB3 := own_set D_HB3 (own_ne_at D_HB3 C2 (by decide)) 8 (.slice V3 (j + 1) k3)
        have F_HC4 := own_set D_HC4 (own_ne_at D_HC4 C2 (by decide)) 8 (.slice V3 (j + 1) k3)
        have F2 := own_set hown (own_ne_at hown C2 (by decide)) 8 (.slice V3 (j + 1) k3)
        have HBz := HBn.setCell (p := ⟨b, 8, none⟩) (by show w.heap.size ≤ b; omega) (.slice V3 (j + 1) k3)
        have HRS := Aside0.mk (show raw2 (fun i => (g54 kq i).f0) (fun i => (g54 kq i).f1) (j + 1) = raw2 (fun i => (g54 kq i).f0) (fun i => (g54 kq i).f1) j ++ [.int .i64 x.f0, .int .i64 x.f1] from by rw [raw2_succ]; show _ ++ ([Value.int .i64 (g54 kq j).f0, Value.int .i64 (g54 kq j).f1] : List Value) = _; rw [HX.out])
        clear b2 f2 E2 C2 hown HBn HB C_H0 C_H1 D_HA D_HB3 D_HC4
        generalize w11.setCell ⟨b, 8, none⟩ (.slice V3 (j + 1) k3) = w12 at E2' F2 HBz E_H0 E_H1 F_HA F_HB3 F_HC4 ⊢
        go_wp2
        go_roundg k1
        case measure => omega
        case rel => exact ⟨j + 1, _, by go_num, ⟨by have := HK.out; omega⟩, ⟨E_H0⟩, ⟨E_H1⟩, ⟨E2'⟩, ⟨by rw [HRS.out]; exact F2⟩, ⟨F_HA⟩, ⟨F_HB3⟩, ⟨F_HC4⟩, ⟨HBz⟩⟩
      · have hj : j = kq.length := by have := HK.out; omega
        subst hj
        have b2 := H2.out.cl
        have b1 := H1.out.cl
        have f1 := H1.out.fr
        have b0 := H0.out.cl
        go_wp2
        have B9 := (((((((((H1.out.set 0 (.int .i64 hr)).set 1 (.int .i64 gr)).set 2 (.slice W2 kl.length d2)).set 3 (.slice W3 kt.length d3)).set 4 (.slice W4 kc.length d4)).set 5 (.int .i64 tubs)).set 6 (.int .i64 op)).set 7 (.int .i64 clo)).set 8 (.slice V2 kq.length k2))
        refine bodyPost_ret (results_cell_row rfl _ _ (w.heap.size + 1) 48 #[.int .i64 hr, .int .i64 gr, .slice W2 kl.length d2, .slice W3 kt.length d3, .slice W4 kc.length d4, .int .i64 tubs, .int .i64 op, .int .i64 clo, .slice V2 kq.length k2] (0, 0) _ rfl (by simpa using B9.out) Try.underlying48 rfl (by kernel_rfl)) rfl ?_
        exact ⟨_, _, _, _, rfl, (own_set (own_set (own_set (own_set (own_set (own_set (own_set (own_set (own_set HA.out (own_ne_at HA.out H1.out (by decide)) 0 _) (own_ne_at HA.out H1.out (by decide)) 1 _) (own_ne_at HA.out H1.out (by decide)) 2 _) (own_ne_at HA.out H1.out (by decide)) 3 _) (own_ne_at HA.out H1.out (by decide)) 4 _) (own_ne_at HA.out H1.out (by decide)) 5 _) (own_ne_at HA.out H1.out (by decide)) 6 _) (own_ne_at HA.out H1.out (by decide)) 7 _) (own_ne_at HA.out H1.out (by decide)) 8 _), (own_set (own_set (own_set (own_set (own_set (own_set (own_set (own_set (own_set HB3.out (own_ne_at HB3.out H1.out (by decide)) 0 _) (own_ne_at HB3.out H1.out (by decide)) 1 _) (own_ne_at HB3.out H1.out (by decide)) 2 _) (own_ne_at HB3.out H1.out (by decide)) 3 _) (own_ne_at HB3.out H1.out (by decide)) 4 _) (own_ne_at HB3.out H1.out (by decide)) 5 _) (own_ne_at HB3.out H1.out (by decide)) 6 _) (own_ne_at HB3.out H1.out (by decide)) 7 _) (own_ne_at HB3.out H1.out (by decide)) 8 _), (own_set (own_set (own_set (own_set (own_set (own_set (own_set (own_set (own_set HC4.out (own_ne_at HC4.out H1.out (by decide)) 0 _) (own_ne_at HC4.out H1.out (by decide)) 1 _) (own_ne_at HC4.out H1.out (by decide)) 2 _) (own_ne_at HC4.out H1.out (by decide)) 3 _) (own_ne_at HC4.out H1.out (by decide)) 4 _) (own_ne_at HC4.out H1.out (by decide)) 5 _) (own_ne_at HC4.out H1.out (by decide)) 6 _) (own_ne_at HC4.out H1.out (by decide)) 7 _) (own_ne_at HC4.out H1.out (by decide)) 8 _), (own_set (own_set (own_set (own_set (own_set (own_set (own_set (own_set (own_set HR.out (own_ne_at HR.out H1.out (by decide)) 0 _) (own_ne_at HR.out H1.out (by decide)) 1 _) (own_ne_at HR.out H1.out (by decide)) 2 _) (own_ne_at HR.out H1.out (by decide)) 3 _) (own_ne_at HR.out H1.out (by decide)) 4 _) (own_ne_at HR.out H1.out (by decide)) 5 _) (own_ne_at HR.out H1.out (by decide)) 6 _) (own_ne_at HR.out H1.out (by decide)) 7 _) (own_ne_at HR.out H1.out (by decide)) 8 _), (((((((((HB.out.setCell (p := ⟨w.heap.size + 1, 0, none⟩) (by show w.heap.size ≤ w.heap.size + 1; omega) _).setCell (p := ⟨w.heap.size + 1, 1, none⟩) (by show w.heap.size ≤ w.heap.size + 1; omega) _).setCell (p := ⟨w.heap.size + 1, 2, none⟩) (by show w.heap.size ≤ w.heap.size + 1; omega) _).setCell (p := ⟨w.heap.size + 1, 3, none⟩) (by show w.heap.size ≤ w.heap.size + 1; omega) _).setCell (p := ⟨w.heap.size + 1, 4, none⟩) (by show w.heap.size ≤ w.heap.size + 1; omega) _).setCell (p := ⟨w.heap.size + 1, 5, none⟩) (by show w.heap.size ≤ w.heap.size + 1; omega) _).setCell (p := ⟨w.heap.size + 1, 6, none⟩) (by show w.heap.size ≤ w.heap.size + 1; omega) _).setCell (p := ⟨w.heap.size + 1, 7, none⟩) (by show w.heap.size ≤ w.heap.size + 1; omega) _).setCell (p := ⟨w.heap.size + 1, 8, none⟩) (by show w.heap.size ≤ w.heap.size + 1; omega) _)⟩
  · simp only [List.getElem_toArray, List.getElem_cons_succ, List.getElem_cons_zero]
    go_wp2
    refine ⟨below_alloc hS _, tree_at1 (g := w1.heap.size) (cs := #[.int .i64 0, .int .i64 0, .slice none 0 0, .slice none 0 0, .slice none 0 0, .int .i64 0, .int .i64 0, .int .i64 0, .slice none 0 0]) (t := 48) (below_alloc hS _) (by first | exact At.new w1.drew _ _ | exact (At.new w1 _ _).drew) fun w4 hS4 hA4 => ?_⟩
    clear hS
    refine tree_seg ?_
    refine seq_do rfl (fun hS => ?_)
    simp only [List.getElem_toArray, List.getElem_cons_succ, List.getElem_cons_zero]
    go_wp2_with (go_at_call 15; refine (House_calls hr gr kl A2 c2 kt A3 c3 kc A4 c4 _ (Kd.C_below H54.out (below_then HB.out HB.out.size hS4)) (Kd.C_below H58.out (below_then HB.out HB.out.size hS4)) (Kd.C_below H60.out (below_then HB.out HB.out.size hS4)) l54 l58 l60).mono ?_; rintro e w5 ⟨v2, v3, v4, rfl, h2, h3, h4, hb⟩; have hS5 := below_step hS4 hb)
    obtain ⟨W2, d2, hv2⟩ := own_form h2
    obtain ⟨W3, d3, hv3⟩ := own_form h3
    obtain ⟨W4, d4, hv4⟩ := own_form h4
    subst hv2 hv3 hv4
    refine ⟨hS5, ?_⟩
    have HS5 := Aside0.mk hS5
    have AX5 := hA4.below hb
    have HZ4 := Aside0.mk (show w.heap.size ≤ w4.heap.size from by have h1 := HB.out.size; have h2 := hS4.size; omega)
    clear hS hS5 hb hS4 hA4
    repeat (first | (refine seq_off (a' := ?_) rfl rfl ?_ ?_; rotate_left; (· simp only [List.getElem_toArray, List.getElem_cons_succ, List.getElem_cons_zero, Act.put, List.setIfInBounds_toArray, List.set_cons_zero, List.set_cons_succ, i64_w, i32_w]; rfl)) | (refine seq_read (v := ?_) (a' := ?_) rfl rfl (fun w' hS => ?_) ?_ ?_; rotate_left 2; (· have b1 := (B1.below hS).cl; go_simp; try with_reducible rfl); (· simp only [List.getElem_toArray, List.getElem_cons_succ, List.getElem_cons_zero, Act.put, List.setIfInBounds_toArray, List.set_cons_zero, List.set_cons_succ, i64_w, i32_w]; rfl)))
    refine seq_last rfl ?_
    simp only [List.getElem_toArray, List.getElem_cons_succ, List.getElem_cons_zero]
    have b5 := AX5.cl
    have f5_ := AX5.fr
    go_wp2
    have A9 := (((((((((AX5.set 0 (.int .i64 hr)).set 1 (.int .i64 gr)).set 2 (.slice W2 kl.length d2)).set 3 (.slice W3 kt.length d3)).set 4 (.slice W4 kc.length d4)).set 5 (.int .i64 tubs)).set 6 (.int .i64 op)).set 7 (.int .i64 clo)).set 8 (.slice none 0 0))
    refine seq_fact (F := fun w' => At w' w.heap.size #[.int .i64 hr, .int .i64 gr, .slice A2 kl.length c2, .slice A3 kt.length c3, .slice A4 kc.length c4, .int .i64 tubs, .int .i64 op, .int .i64 clo, .slice A5 kq.length c5] 28 ∧ At w' (w.heap.size + 1) #[.int .i64 0, .int .i64 0, .slice none 0 0, .slice none 0 0, .slice none 0 0, .int .i64 0, .int .i64 0, .int .i64 0, .slice none 0 0] 48 ∧ At w' w1.heap.size #[.int .i64 hr, .int .i64 gr, .slice W2 kl.length d2, .slice W3 kt.length d3, .slice W4 kc.length d4, .int .i64 tubs, .int .i64 op, .int .i64 clo, .slice none 0 0] 48 ∧ w'.ownsRow w.heap.size 65 2 (.slice W2 kl.length d2) kl.length (raw2 (fun i => (g54 kl i).f0) (fun i => (g54 kl i).f1) kl.length) ∧ w'.ownsRow w.heap.size 73 2 (.slice W3 kt.length d3) kt.length (raw2 (fun i => (g58 kt i).f0) (fun i => (g58 kt i).f1) kt.length) ∧ w'.ownsRow w.heap.size 74 3 (.slice W4 kc.length d4) kc.length (raw3 (fun i => (g60 kc i).f0) (fun i => (g60 kc i).f1) (fun i => (g60 kc i).f2) kc.length) ∧ Below w.heap.size w w') ⟨((((((((((B1.below HS5.out).far (p := ⟨w1.heap.size, 0, none⟩) (by show w.heap.size ≠ w1.heap.size; have := HZ.out; omega) _).far (p := ⟨w1.heap.size, 1, none⟩) (by show w.heap.size ≠ w1.heap.size; have := HZ.out; omega) _).far (p := ⟨w1.heap.size, 2, none⟩) (by show w.heap.size ≠ w1.heap.size; have := HZ.out; omega) _).far (p := ⟨w1.heap.size, 3, none⟩) (by show w.heap.size ≠ w1.heap.size; have := HZ.out; omega) _).far (p := ⟨w1.heap.size, 4, none⟩) (by show w.heap.size ≠ w1.heap.size; have := HZ.out; omega) _).far (p := ⟨w1.heap.size, 5, none⟩) (by show w.heap.size ≠ w1.heap.size; have := HZ.out; omega) _).far (p := ⟨w1.heap.size, 6, none⟩) (by show w.heap.size ≠ w1.heap.size; have := HZ.out; omega) _).far (p := ⟨w1.heap.size, 7, none⟩) (by show w.heap.size ≠ w1.heap.size; have := HZ.out; omega) _).far (p := ⟨w1.heap.size, 8, none⟩) (by show w.heap.size ≠ w1.heap.size; have := HZ.out; omega) _), ((((((((((B2.below HS5.out).far (p := ⟨w1.heap.size, 0, none⟩) (by show w.heap.size + 1 ≠ w1.heap.size; have := HZ.out; omega) _).far (p := ⟨w1.heap.size, 1, none⟩) (by show w.heap.size + 1 ≠ w1.heap.size; have := HZ.out; omega) _).far (p := ⟨w1.heap.size, 2, none⟩) (by show w.heap.size + 1 ≠ w1.heap.size; have := HZ.out; omega) _).far (p := ⟨w1.heap.size, 3, none⟩) (by show w.heap.size + 1 ≠ w1.heap.size; have := HZ.out; omega) _).far (p := ⟨w1.heap.size, 4, none⟩) (by show w.heap.size + 1 ≠ w1.heap.size; have := HZ.out; omega) _).far (p := ⟨w1.heap.size, 5, none⟩) (by show w.heap.size + 1 ≠ w1.heap.size; have := HZ.out; omega) _).far (p := ⟨w1.heap.size, 6, none⟩) (by show w.heap.size + 1 ≠ w1.heap.size; have := HZ.out; omega) _).far (p := ⟨w1.heap.size, 7, none⟩) (by show w.heap.size + 1 ≠ w1.heap.size; have := HZ.out; omega) _).far (p := ⟨w1.heap.size, 8, none⟩) (by show w.heap.size + 1 ≠ w1.heap.size; have := HZ.out; omega) _), by simpa using A9, (own_set (own_set (own_set (own_set (own_set (own_set (own_set (own_set (own_set (own_base h2 HZ4.out) (own_ne_at h2 AX5 (by decide)) 0 _) (own_ne_at h2 AX5 (by decide)) 1 _) (own_ne_at h2 AX5 (by decide)) 2 _) (own_ne_at h2 AX5 (by decide)) 3 _) (own_ne_at h2 AX5 (by decide)) 4 _) (own_ne_at h2 AX5 (by decide)) 5 _) (own_ne_at h2 AX5 (by decide)) 6 _) (own_ne_at h2 AX5 (by decide)) 7 _) (own_ne_at h2 AX5 (by decide)) 8 _), (own_set (own_set (own_set (own_set (own_set (own_set (own_set (own_set (own_set (own_base h3 HZ4.out) (own_ne_at h3 AX5 (by decide)) 0 _) (own_ne_at h3 AX5 (by decide)) 1 _) (own_ne_at h3 AX5 (by decide)) 2 _) (own_ne_at h3 AX5 (by decide)) 3 _) (own_ne_at h3 AX5 (by decide)) 4 _) (own_ne_at h3 AX5 (by decide)) 5 _) (own_ne_at h3 AX5 (by decide)) 6 _) (own_ne_at h3 AX5 (by decide)) 7 _) (own_ne_at h3 AX5 (by decide)) 8 _), (own_set (own_set (own_set (own_set (own_set (own_set (own_set (own_set (own_set (own_base h4 HZ4.out) (own_ne_at h4 AX5 (by decide)) 0 _) (own_ne_at h4 AX5 (by decide)) 1 _) (own_ne_at h4 AX5 (by decide)) 2 _) (own_ne_at h4 AX5 (by decide)) 3 _) (own_ne_at h4 AX5 (by decide)) 4 _) (own_ne_at h4 AX5 (by decide)) 5 _) (own_ne_at h4 AX5 (by decide)) 6 _) (own_ne_at h4 AX5 (by decide)) 7 _) (own_ne_at h4 AX5 (by decide)) 8 _), ((((((((((below_then HB.out HB.out.size HS5.out).setCell (p := ⟨w1.heap.size, 0, none⟩) (by show w.heap.size ≤ w1.heap.size; have := HZ.out; omega) _).setCell (p := ⟨w1.heap.size, 1, none⟩) (by show w.heap.size ≤ w1.heap.size; have := HZ.out; omega) _).setCell (p := ⟨w1.heap.size, 2, none⟩) (by show w.heap.size ≤ w1.heap.size; have := HZ.out; omega) _).setCell (p := ⟨w1.heap.size, 3, none⟩) (by show w.heap.size ≤ w1.heap.size; have := HZ.out; omega) _).setCell (p := ⟨w1.heap.size, 4, none⟩) (by show w.heap.size ≤ w1.heap.size; have := HZ.out; omega) _).setCell (p := ⟨w1.heap.size, 5, none⟩) (by show w.heap.size ≤ w1.heap.size; have := HZ.out; omega) _).setCell (p := ⟨w1.heap.size, 6, none⟩) (by show w.heap.size ≤ w1.heap.size; have := HZ.out; omega) _).setCell (p := ⟨w1.heap.size, 7, none⟩) (by show w.heap.size ≤ w1.heap.size; have := HZ.out; omega) _).setCell (p := ⟨w1.heap.size, 8, none⟩) (by show w.heap.size ≤ w1.heap.size; have := HZ.out; omega) _)⟩ fun w9 hF => ?_
    have hbz : w.heap.size + 1 < w1.heap.size := by have h1 := HZ.out; omega
    clear B1 B2 HB h2 h3 h4 HS5 AX5 A9 b5 f5_ HZ4
    have HZB := hbz
    generalize w1.heap.size = b at hF hbz ⊢
    obtain ⟨A0, A1, A2_, Ra, Rb, Rc, Rd⟩ := hF
    have H0 := Aside0.mk A0
    have H1 := Aside0.mk A1
    have H2 := Aside0.mk A2_
    have HA := Aside0.mk Ra
    have HB3 := Aside0.mk Rb
    have HC4 := Aside0.mk Rc
    have HB := Aside0.mk Rd
    clear A0 A1 A2_ Ra Rb Rc Rd HZB
    refine seq_done ?_
    go_wp2
    go_loopg [4] (kq.length) (fun gq vc w' => ∃ (j : Nat) (v2 : Value), vc = .int .i64 (j : Int) ∧ Aside0 (j + gq = kq.length) ∧ Aside0 (At w' (w.heap.size) #[.int .i64 hr, .int .i64 gr, .slice A2 kl.length c2, .slice A3 kt.length c3, .slice A4 kc.length c4, .int .i64 tubs, .int .i64 op, .int .i64 clo, .slice A5 kq.length c5] 28) ∧ Aside0 (At w' (w.heap.size + 1) #[.int .i64 0, .int .i64 0, .slice none 0 0, .slice none 0 0, .slice none 0 0, .int .i64 0, .int .i64 0, .int .i64 0, .slice none 0 0] 48) ∧ Aside0 (At w' (b) #[.int .i64 hr, .int .i64 gr, .slice W2 kl.length d2, .slice W3 kt.length d3, .slice W4 kc.length d4, .int .i64 tubs, .int .i64 op, .int .i64 clo, v2] 48) ∧ Aside0 (w'.ownsRow w.heap.size 53 2 v2 j (raw2 (fun i => (g54 kq i).f0) (fun i => (g54 kq i).f1) j)) ∧ Aside0 (w'.ownsRow w.heap.size 65 2 (.slice W2 kl.length d2) (kl.length) (raw2 (fun i => (g54 kl i).f0) (fun i => (g54 kl i).f1) kl.length)) ∧ Aside0 (w'.ownsRow w.heap.size 73 2 (.slice W3 kt.length d3) (kt.length) (raw2 (fun i => (g58 kt i).f0) (fun i => (g58 kt i).f1) kt.length)) ∧ Aside0 (w'.ownsRow w.heap.size 74 3 (.slice W4 kc.length d4) (kc.length) (raw3 (fun i => (g60 kc i).f0) (fun i => (g60 kc i).f1) (fun i => (g60 kc i).f2) kc.length)) ∧ Aside0 (Below w.heap.size w w'))
    case atStart => exact ⟨0, .slice none 0 0, rfl, ⟨by omega⟩, H0, H1, H2, ⟨World.ownsRow_nil _ _ _ _⟩, HA, HB3, HC4, HB⟩
    case round =>
      clear H0 H1 H2 HA HB3 HC4 HB
      obtain ⟨j, v2, rfl, HK, H0, H1, H2, HR, HA, HB3, HC4, HB⟩ := hrel
      obtain ⟨V2, k2, hv2⟩ := own_form HR.out
      subst hv2
      by_cases hlt : j < kq.length
      · obtain ⟨k1, rfl⟩ : ∃ k1, gk = k1 + 1 := ⟨gk - 1, by have := HK.out; omega⟩
        obtain ⟨ad, ee, x0, x1⟩ := at54 (Kd.C_below HQ.out HB.out) j hlt
        cases ee
        generalize hxx : g54 kq j = x at x0 x1
        have HX := Aside0.mk hxx
        clear hxx
        have hadlt : ad.block < w.heap.size := by
          obtain ⟨ad', ee', y0, _⟩ := at54 HQ.out j hlt
          cases ee'
          have h := World.block_lt_of_cell? _ _ y0
          rwa [add_block] at h
        have hj2 : (j : Int) < kq.length := by omega
        have b0 := H0.out.cl
        have hl0 := H0.out.lt
        go_wp2
        clear b0 hl0
        refine region_seq [(0, 0), (1, 0), (2, 0), (3, 0), (4, 0), (5, 0), (6, 0), (7, 1), (8, 1), (9, 1), (10, 0), (11, 2)] (fun w' => At w' (b) #[.int .i64 hr, .int .i64 gr, .slice W2 kl.length d2, .slice W3 kt.length d3, .slice W4 kc.length d4, .int .i64 tubs, .int .i64 op, .int .i64 clo, .slice V2 j k2] 48 ∧ At w' (w.heap.size) #[.int .i64 hr, .int .i64 gr, .slice A2 kl.length c2, .slice A3 kt.length c3, .slice A4 kc.length c4, .int .i64 tubs, .int .i64 op, .int .i64 clo, .slice (some ad) kq.length c5] 28 ∧ At w' (w.heap.size + 1) #[.int .i64 0, .int .i64 0, .slice none 0 0, .slice none 0 0, .slice none 0 0, .int .i64 0, .int .i64 0, .int .i64 0, .slice none 0 0] 48 ∧ w'.cell? (ad.add (j * 2)) = some (.int .i64 x.f0) ∧ w'.cell? ⟨(ad.add (j * 2)).block, (ad.add (j * 2)).off + 1, none⟩ = some (.int .i64 x.f1)) (by kernel_rfl) rfl (by kernel_rfl) (by intro _ _ d _ _ h; cases d <;> exact h) ⟨H2.out.drew, H0.out.drew, H1.out.drew, x0, x1⟩ ?_
        repeat (first | (refine seq_off (a' := ?_) rfl rfl ?_ ?_; rotate_left; (· simp only [List.getElem_toArray, List.getElem_cons_succ, List.getElem_cons_zero, Act.put, List.setIfInBounds_toArray, List.set_cons_zero, List.set_cons_succ, i64_w, i32_w]; rfl)) | (refine seq_read (v := ?_) (a' := ?_) rfl rfl (fun w' hS => ?_) ?_ ?_; rotate_left 2; (· obtain ⟨S2, S_H0, S_H1, y0, y1⟩ := hS; have b2 := S2.cl; have b_H0 := S_H0.cl; have b_H1 := S_H1.cl; go_simp; try with_reducible rfl); (· simp only [List.getElem_toArray, List.getElem_cons_succ, List.getElem_cons_zero, Act.put, List.setIfInBounds_toArray, List.set_cons_zero, List.set_cons_succ, i64_w, i32_w]; rfl)))
        refine seq_do rfl (fun hS => ?_)
        simp only [List.getElem_toArray, List.getElem_cons_succ, List.getElem_cons_zero]
        go_wp2_with (go_at_call 25; refine (to25_calls x.f0 x.f1 _).mono ?_; rintro e w7 ⟨rfl, hb⟩)
        refine ⟨by obtain ⟨S2, S_H0, S_H1, y0, y1⟩ := hS; exact ⟨S2.below hb, S_H0.below hb, S_H1.below hb, cell_b hb y0, cell_b hb y1⟩, ?_⟩
        have hb7 : Below wr.heap.size wr w7 := below_step (Below.refl _ _).drew hb
        clear hS hb
        repeat (first | (refine seq_off (a' := ?_) rfl rfl ?_ ?_; rotate_left; (· simp only [List.getElem_toArray, List.getElem_cons_succ, List.getElem_cons_zero, Act.put, List.setIfInBounds_toArray, List.set_cons_zero, List.set_cons_succ, i64_w, i32_w]; rfl)) | (refine seq_read (v := ?_) (a' := ?_) rfl rfl (fun w' hS => ?_) ?_ ?_; rotate_left 2; (· obtain ⟨S2, S_H0, S_H1, y0, y1⟩ := hS; have b2 := S2.cl; have b_H0 := S_H0.cl; have b_H1 := S_H1.cl; go_simp; try with_reducible rfl); (· simp only [List.getElem_toArray, List.getElem_cons_succ, List.getElem_cons_zero, Act.put, List.setIfInBounds_toArray, List.set_cons_zero, List.set_cons_succ, i64_w, i32_w]; rfl)))
        refine seq_do rfl (fun hS => ?_)
        simp only [List.getElem_toArray, List.getElem_cons_succ, List.getElem_cons_zero]
        go_wp2
        refine ⟨by obtain ⟨S2, S_H0, S_H1, y0, y1⟩ := hS; exact ⟨S2.alloc _, S_H0.alloc _, S_H1.alloc _, cell_b (below_alloc (Below.refl _ _) _) y0, cell_b (below_alloc (Below.refl _ _) _) y1⟩, ?_⟩
        refine seq_do rfl (fun hS => ?_)
        simp only [List.getElem_toArray, List.getElem_cons_succ, List.getElem_cons_zero]
        obtain ⟨ie, hi1, hi2, hi3, hi4⟩ := info53'
        have hbd : Below wr.heap.size wr (w7.alloc (.cells #[.int .i64 x.f0, .int .i64 x.f1] 53)) := below_alloc hb7 _
        refine wpList_append_own _ rfl (.tmp 23) (.tmp 30) 38 rfl w.heap.size 53 ie _ 2 16 Try.underlying38 hi1 hi2 hi3 hi4 rfl (by omega) (.slice V2 j k2) j (raw2 (fun i => (g54 kq i).f0) (fun i => (g54 kq i).f1) j) rfl (own_below HR.out hbd) ⟨w7.heap.size, 0, none⟩ 1 1 [.int .i64 x.f0, .int .i64 x.f1] rfl rfl ?news (by simp [Value.oneCell']) (by unfold maxLen; omega) (by omega) ?base ?_
        case news =>
          intro k u hk
          match k, hk with
          | 0, hk => simp at hk; subst hk; simp [Addr.add, (At.new w7 _ _).cl]
          | 1, hk => simp at hk; subst hk; simp [Addr.add, (At.new w7 _ _).cl]
        case base => have h1 := HB.out.size; have h2 := hbd.size; omega
        intro v2' w11 hown hgr _
        obtain ⟨V3, k3, hv⟩ := own_form hown
        subst hv
        have HBn := pw_below_grown (below_then HB.out HB.out.size hbd) _ (by have h1 := HB.out.size; have h2 := hbd.size; omega) hgr (own_ge HR.out)
        have C2 := at_grown (H2.out.below hbd) hgr (own_ne_at (own_below HR.out hbd) (H2.out.below hbd) (by decide))
        have C_H0 := at_grown (H0.out.below hbd) hgr (own_ne_at (own_below HR.out hbd) (H0.out.below hbd) (by decide))
        have C_H1 := at_grown (H1.out.below hbd) hgr (own_ne_at (own_below HR.out hbd) (H1.out.below hbd) (by decide))
        have D_HA := own_grown (own_below HA.out hbd) hgr (own_ne_own (own_below HA.out hbd) (own_below HR.out hbd) (by decide))
        have D_HB3 := own_grown (own_below HB3.out hbd) hgr (own_ne_own (own_below HB3.out hbd) (own_below HR.out hbd) (by decide))
        have D_HC4 := own_grown (own_below HC4.out hbd) hgr (own_ne_own (own_below HC4.out hbd) (own_below HR.out hbd) (by decide))
        have z0 := cell_grown (cell_b hbd x0) hgr (by intro e; have := own_ge HR.out _ e.symm; have e2 := add_block ad j; simp only [add_block] at *; omega)
        have z1 := cell_grown (cell_b hbd x1) hgr (by intro e; have := own_ge HR.out _ e.symm; have e2 := add_block ad j; simp only [add_block] at *; omega)
        refine ⟨⟨C2, C_H0, C_H1, z0, z1⟩, ?_⟩
        repeat (first | (refine seq_off (a' := ?_) rfl rfl ?_ ?_; rotate_left; (· simp only [List.getElem_toArray, List.getElem_cons_succ, List.getElem_cons_zero, Act.put, List.setIfInBounds_toArray, List.set_cons_zero, List.set_cons_succ, i64_w, i32_w]; rfl)) | (refine seq_read (v := ?_) (a' := ?_) rfl rfl (fun w' hS => ?_) ?_ ?_; rotate_left 2; (· obtain ⟨S2, S_H0, S_H1, y0, y1⟩ := hS; have b2 := S2.cl; have b_H0 := S_H0.cl; have b_H1 := S_H1.cl; go_simp; try with_reducible rfl); (· simp only [List.getElem_toArray, List.getElem_cons_succ, List.getElem_cons_zero, Act.put, List.setIfInBounds_toArray, List.set_cons_zero, List.set_cons_succ, i64_w, i32_w]; rfl)))
        refine seq_last rfl ?_
        simp only [List.getElem_toArray, List.getElem_cons_succ, List.getElem_cons_zero]
        have b2 := C2.cl
        have f2 := C2.fr
        clear hS x0 z0 x1 z1 hgr hbd hb7 hi1 hi2 hi3 hi4 HR H2 H0 H1 HA HB3 HC4
        go_wp2
        refine seq_done ?_
        have E2 := C2.set 8 (.slice V3 (j + 1) k3)
        have E2' : At (w11.setCell ⟨b, 8, none⟩ (.slice V3 (j + 1) k3)) (b) #[.int .i64 hr, .int .i64 gr, .slice W2 kl.length d2, .slice W3 kt.length d3, .slice W4 kc.length d4, .int .i64 tubs, .int .i64 op, .int .i64 clo, .slice V3 (j + 1) k3] 48 := by simpa using E2
        have E_H0 := C_H0.far (p := ⟨b, 8, none⟩) (by show w.heap.size ≠ b; omega) (.slice V3 (j + 1) k3)
        have E_H1 := C_H1.far (p := ⟨b, 8, none⟩) (by show w.heap.size + 1 ≠ b; omega) (.slice V3 (j + 1) k3)
        have F_HA := own_set D_HA (own_ne_at D_HA C2 (by decide)) 8 (.slice V3 (j + 1) k3)
        have F_HB3 := own_set D_HB3 (own_ne_at D_HB3 C2 (by decide)) 8 (.slice V3 (j + 1) k3)
        have F_HC4 := own_set D_HC4 (own_ne_at D_HC4 C2 (by decide)) 8 (.slice V3 (j + 1) k3)
        have F2 := own_set hown (own_ne_at hown C2 (by decide)) 8 (.slice V3 (j + 1) k3)
        have HBz := HBn.setCell (p := ⟨b, 8, none⟩) (by show w.heap.size ≤ b; omega) (.slice V3 (j + 1) k3)
        have HRS := Aside0.mk (show raw2 (fun i => (g54 kq i).f0) (fun i => (g54 kq i).f1) (j + 1) = raw2 (fun i => (g54 kq i).f0) (fun i => (g54 kq i).f1) j ++ [.int .i64 x.f0, .int .i64 x.f1] from by rw [raw2_succ]; show _ ++ ([Value.int .i64 (g54 kq j).f0, Value.int .i64 (g54 kq j).f1] : List Value) = _; rw [HX.out])
        clear b2 f2 E2 C2 hown HBn HB C_H0 C_H1 D_HA D_HB3 D_HC4
        generalize w11.setCell ⟨b, 8, none⟩ (.slice V3 (j + 1) k3) = w12 at E2' F2 HBz E_H0 E_H1 F_HA F_HB3 F_HC4 ⊢
        go_wp2
        go_roundg k1
        case measure => omega
        case rel => exact ⟨j + 1, _, by go_num, ⟨by have := HK.out; omega⟩, ⟨E_H0⟩, ⟨E_H1⟩, ⟨E2'⟩, ⟨by rw [HRS.out]; exact F2⟩, ⟨F_HA⟩, ⟨F_HB3⟩, ⟨F_HC4⟩, ⟨HBz⟩⟩
      · have hj : j = kq.length := by have := HK.out; omega
        subst hj
        have b2 := H2.out.cl
        have b1 := H1.out.cl
        have f1 := H1.out.fr
        have b0 := H0.out.cl
        go_wp2
        have B9 := (((((((((H1.out.set 0 (.int .i64 hr)).set 1 (.int .i64 gr)).set 2 (.slice W2 kl.length d2)).set 3 (.slice W3 kt.length d3)).set 4 (.slice W4 kc.length d4)).set 5 (.int .i64 tubs)).set 6 (.int .i64 op)).set 7 (.int .i64 clo)).set 8 (.slice V2 kq.length k2))
        refine bodyPost_ret (results_cell_row rfl _ _ (w.heap.size + 1) 48 #[.int .i64 hr, .int .i64 gr, .slice W2 kl.length d2, .slice W3 kt.length d3, .slice W4 kc.length d4, .int .i64 tubs, .int .i64 op, .int .i64 clo, .slice V2 kq.length k2] (0, 0) _ rfl (by simpa using B9.out) Try.underlying48 rfl (by kernel_rfl)) rfl ?_
        exact ⟨_, _, _, _, rfl, (own_set (own_set (own_set (own_set (own_set (own_set (own_set (own_set (own_set HA.out (own_ne_at HA.out H1.out (by decide)) 0 _) (own_ne_at HA.out H1.out (by decide)) 1 _) (own_ne_at HA.out H1.out (by decide)) 2 _) (own_ne_at HA.out H1.out (by decide)) 3 _) (own_ne_at HA.out H1.out (by decide)) 4 _) (own_ne_at HA.out H1.out (by decide)) 5 _) (own_ne_at HA.out H1.out (by decide)) 6 _) (own_ne_at HA.out H1.out (by decide)) 7 _) (own_ne_at HA.out H1.out (by decide)) 8 _), (own_set (own_set (own_set (own_set (own_set (own_set (own_set (own_set (own_set HB3.out (own_ne_at HB3.out H1.out (by decide)) 0 _) (own_ne_at HB3.out H1.out (by decide)) 1 _) (own_ne_at HB3.out H1.out (by decide)) 2 _) (own_ne_at HB3.out H1.out (by decide)) 3 _) (own_ne_at HB3.out H1.out (by decide)) 4 _) (own_ne_at HB3.out H1.out (by decide)) 5 _) (own_ne_at HB3.out H1.out (by decide)) 6 _) (own_ne_at HB3.out H1.out (by decide)) 7 _) (own_ne_at HB3.out H1.out (by decide)) 8 _), (own_set (own_set (own_set (own_set (own_set (own_set (own_set (own_set (own_set HC4.out (own_ne_at HC4.out H1.out (by decide)) 0 _) (own_ne_at HC4.out H1.out (by decide)) 1 _) (own_ne_at HC4.out H1.out (by decide)) 2 _) (own_ne_at HC4.out H1.out (by decide)) 3 _) (own_ne_at HC4.out H1.out (by decide)) 4 _) (own_ne_at HC4.out H1.out (by decide)) 5 _) (own_ne_at HC4.out H1.out (by decide)) 6 _) (own_ne_at HC4.out H1.out (by decide)) 7 _) (own_ne_at HC4.out H1.out (by decide)) 8 _), (own_set (own_set (own_set (own_set (own_set (own_set (own_set (own_set (own_set HR.out (own_ne_at HR.out H1.out (by decide)) 0 _) (own_ne_at HR.out H1.out (by decide)) 1 _) (own_ne_at HR.out H1.out (by decide)) 2 _) (own_ne_at HR.out H1.out (by decide)) 3 _) (own_ne_at HR.out H1.out (by decide)) 4 _) (own_ne_at HR.out H1.out (by decide)) 5 _) (own_ne_at HR.out H1.out (by decide)) 6 _) (own_ne_at HR.out H1.out (by decide)) 7 _) (own_ne_at HR.out H1.out (by decide)) 8 _), (((((((((HB.out.setCell (p := ⟨w.heap.size + 1, 0, none⟩) (by show w.heap.size ≤ w.heap.size + 1; omega) _).setCell (p := ⟨w.heap.size + 1, 1, none⟩) (by show w.heap.size ≤ w.heap.size + 1; omega) _).setCell (p := ⟨w.heap.size + 1, 2, none⟩) (by show w.heap.size ≤ w.heap.size + 1; omega) _).setCell (p := ⟨w.heap.size + 1, 3, none⟩) (by show w.heap.size ≤ w.heap.size + 1; omega) _).setCell (p := ⟨w.heap.size + 1, 4, none⟩) (by show w.heap.size ≤ w.heap.size + 1; omega) _).setCell (p := ⟨w.heap.size + 1, 5, none⟩) (by show w.heap.size ≤ w.heap.size + 1; omega) _).setCell (p := ⟨w.heap.size + 1, 6, none⟩) (by show w.heap.size ≤ w.heap.size + 1; omega) _).setCell (p := ⟨w.heap.size + 1, 7, none⟩) (by show w.heap.size ≤ w.heap.size + 1; omega) _).setCell (p := ⟨w.heap.size + 1, 8, none⟩) (by show w.heap.size ≤ w.heap.size + 1; omega) _)⟩

end Go.Proofs.Ytgdbnioodimlfaa.Wk
