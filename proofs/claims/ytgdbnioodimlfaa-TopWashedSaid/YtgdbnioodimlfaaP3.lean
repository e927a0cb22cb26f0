/- The contract of House of posserlaw01. Conditions stand in each theorem. -/
import Derived.Test.YtgdbnioodimlfaaSeq
import Derived.Test.YtgdbnioodimlfaaP2
import Derived.OwnWalk
namespace Go.Proofs.Ytgdbnioodimlfaa.Wk
open Go.RowKit Go.Proofs.YtgdbnioodimlfaaW.PrintWords Go.Proofs.YtgdbnioodimlfaaW.PrintLast Go.Proofs.YtgdbnioodimlfaaW.PrintMore Go.Proofs.Ytgdbnioodimlfaa.PTopWashed Go.Proofs.Ytgdbnioodimlfaa.Sq
attribute [local go_sem] max2_int min2_int max_two min_two max_three min_three max_four min_four
set_option linter.unusedVariables false
set_option linter.unusedSimpArgs false

theorem info73' : ∃ i, Try.prog.info? 73 = some i ∧ i.zero = some (.agg #[.int .i64 0, .int .i64 0]) ∧ i.size = 2 ∧ i.bytes = 16 := by
  have h := info73
  cases e : Try.prog.info? 73 with
  | none => rw [e] at h; cases h
  | some i =>
    rw [e] at h
    simp at h
    exact ⟨i, rfl, h.1, h.2.1, h.2.2⟩
theorem info74' : ∃ i, Try.prog.info? 74 = some i ∧ i.zero = some (.agg #[.int .i64 0, .int .i64 0, .int .i64 0]) ∧ i.size = 3 ∧ i.bytes = 24 := by
  have h := info74
  cases e : Try.prog.info? 74 with
  | none => rw [e] at h; cases h
  | some i =>
    rw [e] at h
    simp at h
    exact ⟨i, rfl, h.1, h.2.1, h.2.2⟩

set_option maxHeartbeats 2000000 in
theorem House_calls (hr gr : Int) (kl : List S54) (A2 : Option Addr) (c2 : Nat) (kt : List S58) (A3 : Option Addr) (c3 : Nat) (kc : List S60) (A4 : Option Addr) (c4 : Nat) (w : World) (h54 : Kd.C k54 w A2 kl.length kl) (h58 : Kd.C k58 w A3 kt.length kt) (h60 : Kd.C k60 w A4 kc.length kc) (l54 : kl.length ≤ 1000) (l58 : kt.length ≤ 1000) (l60 : kc.length ≤ 1000) :
    Calls Try.prog 15 #[.agg #[.int .i64 hr, .int .i64 gr, .slice A2 kl.length c2, .slice A3 kt.length c3, .slice A4 kc.length c4]] w fun e w' => ∃ v2 v3 v4, e = .returned (.agg #[.int .i64 hr, .int .i64 gr, v2, v3, v4]) ∧ w'.ownsRow w.heap.size 65 2 v2 kl.length (raw2 (fun i => (g54 kl i).f0) (fun i => (g54 kl i).f1) kl.length) ∧ w'.ownsRow w.heap.size 73 2 v3 kt.length (raw2 (fun i => (g58 kt i).f0) (fun i => (g58 kt i).f1) kt.length) ∧ w'.ownsRow w.heap.size 74 3 v4 kc.length (raw3 (fun i => (g60 kc i).f0) (fun i => (g60 kc i).f1) (fun i => (g60 kc i).f2) kc.length) ∧ Below w.heap.size w w' := by
  have H54 := Aside0.mk h54
  have H58 := Aside0.mk h58
  have H60 := Aside0.mk h60
  clear h54 h58 h60
  go_enter Try.func15, Try.ntmps15
  go_upto_region 2 with fail
  refine wp_new3 fun w1 B1 B2 B3 HB HZ => ?_
  have H0 := Aside0.mk B1
  have H1 := Aside0.mk B2
  have H2 := Aside0.mk B3
  clear B1 B2 B3
  go_wp2
  go_loopg [4] (kl.length) (fun kq vc w' => ∃ (j : Nat) (v2 : Value), vc = .int .i64 (j : Int) ∧ Aside0 (j + kq = kl.length) ∧ Aside0 (At w' (w.heap.size) #[.int .i64 hr, .int .i64 gr, .slice A2 kl.length c2, .slice A3 kt.length c3, .slice A4 kc.length c4] 26) ∧ Aside0 (At w' (w.heap.size + 1) #[.int .i64 0, .int .i64 0, .slice none 0 0, .slice none 0 0, .slice none 0 0] 46) ∧ Aside0 (At w' (w.heap.size + 1 + 1) #[.int .i64 hr, .int .i64 gr, v2, .slice none 0 0, .slice none 0 0] 46) ∧ Aside0 (w'.ownsRow w.heap.size 65 2 v2 j (raw2 (fun i => (g54 kl i).f0) (fun i => (g54 kl i).f1) j)) ∧ Aside0 (Below w.heap.size w w'))
  case atStart => exact ⟨0, .slice none 0 0, rfl, ⟨by omega⟩, H0, H1, H2, ⟨World.ownsRow_nil _ _ _ _⟩, HB⟩
  case round =>
    clear H0 H1 H2  HB
    obtain ⟨j, v2, rfl, HK, H0, H1, H2, HR, HB⟩ := hrel
    obtain ⟨V2, k2, hv2⟩ := own_form HR.out
    subst hv2
    by_cases hlt : j < kl.length
    · obtain ⟨k1, rfl⟩ : ∃ k1, gk = k1 + 1 := ⟨gk - 1, by have := HK.out; omega⟩
      obtain ⟨ad, ee, x0, x1⟩ := at54 (Kd.C_below H54.out HB.out) j hlt
      cases ee
      generalize hxx : g54 kl j = x at x0 x1
      have HX := Aside0.mk hxx
      clear hxx
      have hadlt : ad.block < w.heap.size := by
        obtain ⟨ad', ee', y0, _⟩ := at54 H54.out j hlt
        cases ee'
        have h := World.block_lt_of_cell? _ _ y0
        rwa [add_block] at h
      have hj2 : (j : Int) < kl.length := by omega
      have b0 := H0.out.cl
      have hl0 := H0.out.lt
      go_wp2
      clear b0 hl0
      refine region_seq [(0, 0), (1, 0), (2, 0), (3, 0), (4, 0), (5, 0), (6, 0), (7, 1), (8, 1), (9, 1), (10, 0), (11, 2)] (fun w' => At w' (w.heap.size + 1 + 1) #[.int .i64 hr, .int .i64 gr, .slice V2 j k2, .slice none 0 0, .slice none 0 0] 46 ∧ At w' (w.heap.size) #[.int .i64 hr, .int .i64 gr, .slice (some ad) kl.length c2, .slice A3 kt.length c3, .slice A4 kc.length c4] 26 ∧ At w' (w.heap.size + 1) #[.int .i64 0, .int .i64 0, .slice none 0 0, .slice none 0 0, .slice none 0 0] 46 ∧ w'.cell? (ad.add (j * 2)) = some (.int .i64 x.f0) ∧ w'.cell? ⟨(ad.add (j * 2)).block, (ad.add (j * 2)).off + 1, none⟩ = some (.int .i64 x.f1)) (by kernel_rfl) rfl (by kernel_rfl) (by intro _ _ d _ _ h; cases d <;> exact h) ⟨H2.out.drew, H0.out.drew, H1.out.drew, x0, x1⟩ ?_
      repeat (first | (refine seq_off (a' := ?_) rfl rfl ?_ ?_; rotate_left; (· simp only [List.getElem_toArray, List.getElem_cons_succ, List.getElem_cons_zero, Act.put, List.setIfInBounds_toArray, List.set_cons_zero, List.set_cons_succ, i64_w, i32_w]; rfl)) | (refine seq_read (v := ?_) (a' := ?_) rfl rfl (fun w' hS => ?_) ?_ ?_; rotate_left 2; (· obtain ⟨S2, S_H0, S_H1, y0, y1⟩ := hS; have b2 := S2.cl; have b_H0 := S_H0.cl; have b_H1 := S_H1.cl; go_simp; try with_reducible rfl); (· simp only [List.getElem_toArray, List.getElem_cons_succ, List.getElem_cons_zero, Act.put, List.setIfInBounds_toArray, List.set_cons_zero, List.set_cons_succ, i64_w, i32_w]; rfl)))
      refine seq_do rfl (fun hS => ?_)
      simp only [List.getElem_toArray, List.getElem_cons_succ, List.getElem_cons_zero]
      go_wp2_with (go_at_call 35; refine (to35_calls x.f0 x.f1 _).mono ?_; rintro e w7 ⟨rfl, hb⟩)
      refine ⟨by obtain ⟨S2, S_H0, S_H1, y0, y1⟩ := hS; exact ⟨S2.below hb, S_H0.below hb, S_H1.below hb, cell_b hb y0, cell_b hb y1⟩, ?_⟩
      have hb7 : Below wr.heap.size wr w7 := below_step (Below.refl _ _).drew hb
      clear hS hb
      repeat (first | (refine seq_off (a' := ?_) rfl rfl ?_ ?_; rotate_left; (· simp only [List.getElem_toArray, List.getElem_cons_succ, List.getElem_cons_zero, Act.put, List.setIfInBounds_toArray, List.set_cons_zero, List.set_cons_succ, i64_w, i32_w]; rfl)) | (refine seq_read (v := ?_) (a' := ?_) rfl rfl (fun w' hS => ?_) ?_ ?_; rotate_left 2; (· obtain ⟨S2, S_H0, S_H1, y0, y1⟩ := hS; have b2 := S2.cl; have b_H0 := S_H0.cl; have b_H1 := S_H1.cl; go_simp; try with_reducible rfl); (· simp only [List.getElem_toArray, List.getElem_cons_succ, List.getElem_cons_zero, Act.put, List.setIfInBounds_toArray, List.set_cons_zero, List.set_cons_succ, i64_w, i32_w]; rfl)))
      refine seq_do rfl (fun hS => ?_)
      simp only [List.getElem_toArray, List.getElem_cons_succ, List.getElem_cons_zero]
      go_wp2
      refine ⟨by obtain ⟨S2, S_H0, S_H1, y0, y1⟩ := hS; exact ⟨S2.alloc _, S_H0.alloc _, S_H1.alloc _, cell_b (below_alloc (Below.refl _ _) _) y0, cell_b (below_alloc (Below.refl _ _) _) y1⟩, ?_⟩
      refine seq_do rfl (fun hS => ?_)
      simp only [List.getElem_toArray, List.getElem_cons_succ, List.getElem_cons_zero]
      obtain ⟨ie, hi1, hi2, hi3, hi4⟩ := info65'
      have hbd : Below wr.heap.size wr (w7.alloc (.cells #[.int .i64 x.f0, .int .i64 x.f1] 65)) := below_alloc hb7 _
      refine wpList_append_own _ rfl (.tmp 21) (.tmp 28) 42 rfl w.heap.size 65 ie _ 2 16 Try.underlying42 hi1 hi2 hi3 hi4 rfl (by omega) (.slice V2 j k2) j (raw2 (fun i => (g54 kl i).f0) (fun i => (g54 kl i).f1) j) rfl (own_below HR.out hbd) ⟨w7.heap.size, 0, none⟩ 1 1 [.int .i64 x.f0, .int .i64 x.f1] rfl rfl ?news (by simp [Value.oneCell']) (by unfold maxLen; omega) (by omega) ?base ?_
      case news =>
        intro k u hk
        match k, hk with
        | 0, hk => simp at hk; subst hk; simp [Addr.add, (At.new w7 _ _).cl]
        | 1, hk => simp at hk; subst hk; simp [Addr.add, (At.new w7 _ _).cl]
      case base => have h1 := HB.out.size; have h2 := hbd.size; omega
      intro v2' w11 hown hgr _
      obtain ⟨V3, k3, hv⟩ := own_form hown
      subst hv
      have HBn := pw_below_grown (below_then HB.out HB.out.size hbd) _ (by have h1 := HB.out.size; have h2 := hbd.size; omega) hgr (own_ge HR.out)
      have C2 := at_grown (H2.out.below hbd) hgr (own_ne_at (own_below HR.out hbd) (H2.out.below hbd) (by decide))
      have C_H0 := at_grown (H0.out.below hbd) hgr (own_ne_at (own_below HR.out hbd) (H0.out.below hbd) (by decide))
      have C_H1 := at_grown (H1.out.below hbd) hgr (own_ne_at (own_below HR.out hbd) (H1.out.below hbd) (by decide))
      have z0 := cell_grown (cell_b hbd x0) hgr (by intro e; have := own_ge HR.out _ e.symm; have e2 := add_block ad j; simp only [add_block] at *; omega)
      have z1 := cell_grown (cell_b hbd x1) hgr (by intro e; have := own_ge HR.out _ e.symm; have e2 := add_block ad j; simp only [add_block] at *; omega)
      refine ⟨⟨C2, C_H0, C_H1, z0, z1⟩, ?_⟩
      repeat (first | (refine seq_off (a' := ?_) rfl rfl ?_ ?_; rotate_left; (· simp only [List.getElem_toArray, List.getElem_cons_succ, List.getElem_cons_zero, Act.put, List.setIfInBounds_toArray, List.set_cons_zero, List.set_cons_succ, i64_w, i32_w]; rfl)) | (refine seq_read (v := ?_) (a' := ?_) rfl rfl (fun w' hS => ?_) ?_ ?_; rotate_left 2; (· obtain ⟨S2, S_H0, S_H1, y0, y1⟩ := hS; have b2 := S2.cl; have b_H0 := S_H0.cl; have b_H1 := S_H1.cl; go_simp; try with_reducible rfl); (· simp only [List.getElem_toArray, List.getElem_cons_succ, List.getElem_cons_zero, Act.put, List.setIfInBounds_toArray, List.set_cons_zero, List.set_cons_succ, i64_w, i32_w]; rfl)))
      refine seq_last rfl ?_
      simp only [List.getElem_toArray, List.getElem_cons_succ, List.getElem_cons_zero]
      have b2 := C2.cl
      have f2 := C2.fr
      clear hS x0 z0 x1 z1 hgr hbd hb7 hi1 hi2 hi3 hi4 HR H2 H0 H1
      go_wp2
      refine seq_done ?_
      have E2 := C2.set 2 (.slice V3 (j + 1) k3)
      have E2' : At (w11.setCell ⟨w.heap.size + 1 + 1, 2, none⟩ (.slice V3 (j + 1) k3)) (w.heap.size + 1 + 1) #[.int .i64 hr, .int .i64 gr, .slice V3 (j + 1) k3, .slice none 0 0, .slice none 0 0] 46 := by simpa using E2
      have E_H0 := C_H0.far (p := ⟨w.heap.size + 1 + 1, 2, none⟩) (by show w.heap.size ≠ w.heap.size + 1 + 1; omega) (.slice V3 (j + 1) k3)
      have E_H1 := C_H1.far (p := ⟨w.heap.size + 1 + 1, 2, none⟩) (by show w.heap.size + 1 ≠ w.heap.size + 1 + 1; omega) (.slice V3 (j + 1) k3)
      have F2 := own_set hown (own_ne_at hown C2 (by decide)) 2 (.slice V3 (j + 1) k3)
      have HBz := HBn.setCell (p := ⟨w.heap.size + 1 + 1, 2, none⟩) (by show w.heap.size ≤ w.heap.size + 1 + 1; omega) (.slice V3 (j + 1) k3)
      have HRS := Aside0.mk (show raw2 (fun i => (g54 kl i).f0) (fun i => (g54 kl i).f1) (j + 1) = raw2 (fun i => (g54 kl i).f0) (fun i => (g54 kl i).f1) j ++ [.int .i64 x.f0, .int .i64 x.f1] from by rw [raw2_succ]; show _ ++ ([Value.int .i64 (g54 kl j).f0, Value.int .i64 (g54 kl j).f1] : List Value) = _; rw [HX.out])
      clear b2 f2 E2 C2 hown HBn HB C_H0 C_H1
      generalize w11.setCell ⟨w.heap.size + 1 + 1, 2, none⟩ (.slice V3 (j + 1) k3) = w12 at E2' F2 HBz E_H0 E_H1 ⊢
      go_wp2
      go_roundg k1
      case measure => omega
      case rel => exact ⟨j + 1, _, by go_num, ⟨by have := HK.out; omega⟩, ⟨E_H0⟩, ⟨E_H1⟩, ⟨E2'⟩, ⟨by rw [HRS.out]; exact F2⟩, ⟨HBz⟩⟩
    · have hj : j = kl.length := by have := HK.out; omega
      subst hj
      obtain ⟨va, hva⟩ : ∃ v, v = Value.slice V2 kl.length k2 := ⟨_, rfl⟩
      rw [← hva] at H2 HR
      clear hva
      have HA := HR
      clear HR
      have b0 := H0.out.cl
      go_wp2
      clear b0
      go_loopg [5] (kt.length) (fun kq vc w' => ∃ (j : Nat) (v2 : Value), vc = .int .i64 (j : Int) ∧ Aside0 (j + kq = kt.length) ∧ Aside0 (At w' (w.heap.size) #[.int .i64 hr, .int .i64 gr, .slice A2 kl.length c2, .slice A3 kt.length c3, .slice A4 kc.length c4] 26) ∧ Aside0 (At w' (w.heap.size + 1) #[.int .i64 0, .int .i64 0, .slice none 0 0, .slice none 0 0, .slice none 0 0] 46) ∧ Aside0 (At w' (w.heap.size + 1 + 1) #[.int .i64 hr, .int .i64 gr, va, v2, .slice none 0 0] 46) ∧ Aside0 (w'.ownsRow w.heap.size 73 2 v2 j (raw2 (fun i => (g58 kt i).f0) (fun i => (g58 kt i).f1) j)) ∧ Aside0 (w'.ownsRow w.heap.size 65 2 (va) (kl.length) (raw2 (fun i => (g54 kl i).f0) (fun i => (g54 kl i).f1) kl.length)) ∧ Aside0 (Below w.heap.size w w'))
      case atStart => exact ⟨0, .slice none 0 0, rfl, ⟨by omega⟩, H0, H1, H2, ⟨World.ownsRow_nil _ _ _ _⟩, HA, HB⟩
      case round =>
        clear H0 H1 H2 HA HB
        obtain ⟨j, v2, rfl, HK, H0, H1, H2, HR, HA, HB⟩ := hrel
        obtain ⟨V2, k2, hv2⟩ := own_form HR.out
        subst hv2
        by_cases hlt : j < kt.length
        · obtain ⟨k1, rfl⟩ : ∃ k1, gk = k1 + 1 := ⟨gk - 1, by have := HK.out; omega⟩
          obtain ⟨ad, ee, x0, x1⟩ := at58 (Kd.C_below H58.out HB.out) j hlt
          cases ee
          generalize hxx : g58 kt j = x at x0 x1
          have HX := Aside0.mk hxx
          clear hxx
          have hadlt : ad.block < w.heap.size := by
            obtain ⟨ad', ee', y0, _⟩ := at58 H58.out j hlt
            cases ee'
            have h := World.block_lt_of_cell? _ _ y0
            rwa [add_block] at h
          have hj2 : (j : Int) < kt.length := by omega
          have b0 := H0.out.cl
          have hl0 := H0.out.lt
          go_wp2
          clear b0 hl0
          refine region_seq [(0, 0), (1, 0), (2, 0), (3, 0), (4, 0), (5, 0), (6, 0), (7, 0), (8, 0), (9, 0), (10, 0), (11, 0), (12, 0), (13, 0), (14, 0), (15, 1), (16, 1), (17, 0), (18, 2)] (fun w' => At w' (w.heap.size + 1 + 1) #[.int .i64 hr, .int .i64 gr, va, .slice V2 j k2, .slice none 0 0] 46 ∧ At w' (w.heap.size) #[.int .i64 hr, .int .i64 gr, .slice A2 kl.length c2, .slice (some ad) kt.length c3, .slice A4 kc.length c4] 26 ∧ At w' (w.heap.size + 1) #[.int .i64 0, .int .i64 0, .slice none 0 0, .slice none 0 0, .slice none 0 0] 46 ∧ w'.cell? (ad.add (j * 2)) = some (.int .i64 x.f0) ∧ w'.cell? ⟨(ad.add (j * 2)).block, (ad.add (j * 2)).off + 1, none⟩ = some (.int .i64 x.f1)) (by kernel_rfl) rfl (by kernel_rfl) (by intro _ _ d _ _ h; cases d <;> exact h) ⟨H2.out.drew, H0.out.drew, H1.out.drew, x0, x1⟩ ?_
          repeat (first | (refine seq_off (a' := ?_) rfl rfl ?_ ?_; rotate_left; (· simp only [List.getElem_toArray, List.getElem_cons_succ, List.getElem_cons_zero, Act.put, List.setIfInBounds_toArray, List.set_cons_zero, List.set_cons_succ, i64_w, i32_w]; rfl)) | (refine seq_read (v := ?_) (a' := ?_) rfl rfl (fun w' hS => ?_) ?_ ?_; rotate_left 2; (· obtain ⟨S2, S_H0, S_H1, y0, y1⟩ := hS; have b2 := S2.cl; have b_H0 := S_H0.cl; have b_H1 := S_H1.cl; go_simp; try with_reducible rfl); (· simp only [List.getElem_toArray, List.getElem_cons_succ, List.getElem_cons_zero, Act.put, List.setIfInBounds_toArray, List.set_cons_zero, List.set_cons_succ, i64_w, i32_w]; rfl)))
          have hb7 : Below wr.heap.size wr wr.drew := (Below.refl _ _).drew
          repeat (first | (refine seq_off (a' := ?_) rfl rfl ?_ ?_; rotate_left; (· simp only [List.getElem_toArray, List.getElem_cons_succ, List.getElem_cons_zero, Act.put, List.setIfInBounds_toArray, List.set_cons_zero, List.set_cons_succ, i64_w, i32_w]; rfl)) | (refine seq_read (v := ?_) (a' := ?_) rfl rfl (fun w' hS => ?_) ?_ ?_; rotate_left 2; (· obtain ⟨S2, S_H0, S_H1, y0, y1⟩ := hS; have b2 := S2.cl; have b_H0 := S_H0.cl; have b_H1 := S_H1.cl; go_simp; try with_reducible rfl); (· simp only [List.getElem_toArray, List.getElem_cons_succ, List.getElem_cons_zero, Act.put, List.setIfInBounds_toArray, List.set_cons_zero, List.set_cons_succ, i64_w, i32_w]; rfl)))
          refine seq_do rfl (fun hS => ?_)
          simp only [List.getElem_toArray, List.getElem_cons_succ, List.getElem_cons_zero]
          go_wp2
          refine ⟨by obtain ⟨S2, S_H0, S_H1, y0, y1⟩ := hS; exact ⟨S2.alloc _, S_H0.alloc _, S_H1.alloc _, cell_b (below_alloc (Below.refl _ _) _) y0, cell_b (below_alloc (Below.refl _ _) _) y1⟩, ?_⟩
          refine seq_do rfl (fun hS => ?_)
          simp only [List.getElem_toArray, List.getElem_cons_succ, List.getElem_cons_zero]
          obtain ⟨ie, hi1, hi2, hi3, hi4⟩ := info73'
          have hbd : Below wr.heap.size wr (wr.alloc (.cells #[.int .i64 x.f0, .int .i64 x.f1] 73)).drew := (below_alloc (Below.refl _ _) _).drew
          refine wpList_append_own _ rfl (.tmp 39) (.tmp 53) 43 rfl w.heap.size 73 ie _ 2 16 Try.underlying43 hi1 hi2 hi3 hi4 rfl (by omega) (.slice V2 j k2) j (raw2 (fun i => (g58 kt i).f0) (fun i => (g58 kt i).f1) j) rfl (own_below HR.out hbd) ⟨wr.heap.size, 0, none⟩ 1 1 [.int .i64 x.f0, .int .i64 x.f1] rfl rfl ?news (by simp [Value.oneCell']) (by unfold maxLen; omega) (by omega) ?base ?_
          case news =>
            intro k u hk
            match k, hk with
            | 0, hk => simp at hk; subst hk; simp [Addr.add, (At.new wr _ _).drew.cl]
            | 1, hk => simp at hk; subst hk; simp [Addr.add, (At.new wr _ _).drew.cl]
          case base => have h1 := HB.out.size; have h2 := hbd.size; omega
          intro v2' w11 hown hgr _
          obtain ⟨V3, k3, hv⟩ := own_form hown
          subst hv
          have HBn := pw_below_grown (below_then HB.out HB.out.size hbd) _ (by have h1 := HB.out.size; have h2 := hbd.size; omega) hgr (own_ge HR.out)
          have C2 := at_grown (H2.out.below hbd) hgr (own_ne_at (own_below HR.out hbd) (H2.out.below hbd) (by decide))
          have C_H0 := at_grown (H0.out.below hbd) hgr (own_ne_at (own_below HR.out hbd) (H0.out.below hbd) (by decide))
          have C_H1 := at_grown (H1.out.below hbd) hgr (own_ne_at (own_below HR.out hbd) (H1.out.below hbd) (by decide))
          have D_HA := own_grown (own_below HA.out hbd) hgr (own_ne_own (own_below HA.out hbd) (own_below HR.out hbd) (by decide))
          have z0 := cell_grown (cell_b hbd x0) hgr (by intro e; have := own_ge HR.out _ e.symm; have e2 := add_block ad j; simp only [add_block] at *; omega)
          have z1 := cell_grown (cell_b hbd x1) hgr (by intro e; have := own_ge HR.out _ e.symm; have e2 := add_block ad j; simp only [add_block] at *; omega)
          refine ⟨⟨C2, C_H0, C_H1, z0, z1⟩, ?_⟩
          repeat (first | (refine seq_off (a' := ?_) rfl rfl ?_ ?_; rotate_left; (· simp only [List.getElem_toArray, List.getElem_cons_succ, List.getElem_cons_zero, Act.put, List.setIfInBounds_toArray, List.set_cons_zero, List.set_cons_succ, i64_w, i32_w]; rfl)) | (refine seq_read (v := ?_) (a' := ?_) rfl rfl (fun w' hS => ?_) ?_ ?_; rotate_left 2; (· obtain ⟨S2, S_H0, S_H1, y0, y1⟩ := hS; have b2 := S2.cl; have b_H0 := S_H0.cl; have b_H1 := S_H1.cl; go_simp; try with_reducible rfl); (· simp only [List.getElem_toArray, List.getElem_cons_succ, List.getElem_cons_zero, Act.put, List.setIfInBounds_toArray, List.set_cons_zero, List.set_cons_succ, i64_w, i32_w]; rfl)))
          refine seq_last rfl ?_
          simp only [List.getElem_toArray, List.getElem_cons_succ, List.getElem_cons_zero]
          have b2 := C2.cl
          have f2 := C2.fr
          clear hS x0 z0 x1 z1 hgr hbd hb7 hi1 hi2 hi3 hi4 HR H2 H0 H1 HA
          go_wp2
          refine seq_done ?_
          have E2 := C2.set 3 (.slice V3 (j + 1) k3)
          have E2' : At (w11.setCell ⟨w.heap.size + 1 + 1, 3, none⟩ (.slice V3 (j + 1) k3)) (w.heap.size + 1 + 1) #[.int .i64 hr, .int .i64 gr, va, .slice V3 (j + 1) k3, .slice none 0 0] 46 := by simpa using E2
          have E_H0 := C_H0.far (p := ⟨w.heap.size + 1 + 1, 3, none⟩) (by show w.heap.size ≠ w.heap.size + 1 + 1; omega) (.slice V3 (j + 1) k3)
          have E_H1 := C_H1.far (p := ⟨w.heap.size + 1 + 1, 3, none⟩) (by show w.heap.size + 1 ≠ w.heap.size + 1 + 1; omega) (.slice V3 (j + 1) k3)
          have F_HA := own_set D_HA (own_ne_at D_HA C2 (by decide)) 3 (.slice V3 (j + 1) k3)
          have F2 := own_set hown (own_ne_at hown C2 (by decide)) 3 (.slice V3 (j + 1) k3)
          have HBz := HBn.setCell (p := ⟨w.heap.size + 1 + 1, 3, none⟩) (by show w.heap.size ≤ w.heap.size + 1 + 1; omega) (.slice V3 (j + 1) k3)
          have HRS := Aside0.mk (show raw2 (fun i => (g58 kt i).f0) (fun i => (g58 kt i).f1) (j + 1) = raw2 (fun i => (g58 kt i).f0) (fun i => (g58 kt i).f1) j ++ [.int .i64 x.f0, .int .i64 x.f1] from by rw [raw2_succ]; show _ ++ ([Value.int .i64 (g58 kt j).f0, Value.int .i64 (g58 kt j).f1] : List Value) = _; rw [HX.out])
          clear b2 f2 E2 C2 hown HBn HB C_H0 C_H1 D_HA
          generalize w11.setCell ⟨w.heap.size + 1 + 1, 3, none⟩ (.slice V3 (j + 1) k3) = w12 at E2' F2 HBz E_H0 E_H1 F_HA ⊢
          go_wp2
          go_roundg k1
          case measure => omega
          case rel => exact ⟨j + 1, _, by go_num, ⟨by have := HK.out; omega⟩, ⟨E_H0⟩, ⟨E_H1⟩, ⟨E2'⟩, ⟨by rw [HRS.out]; exact F2⟩, ⟨F_HA⟩, ⟨HBz⟩⟩
        · have hj : j = kt.length := by have := HK.out; omega
          subst hj
          obtain ⟨vb, hva⟩ : ∃ v, v = Value.slice V2 kt.length k2 := ⟨_, rfl⟩
          rw [← hva] at H2 HR
          clear hva
          have HB3 := HR
          clear HR
          have b0 := H0.out.cl
          go_wp2
          clear b0
          go_loopg [6] (kc.length) (fun kq vc w' => ∃ (j : Nat) (v2 : Value), vc = .int .i64 (j : Int) ∧ Aside0 (j + kq = kc.length) ∧ Aside0 (At w' (w.heap.size) #[.int .i64 hr, .int .i64 gr, .slice A2 kl.length c2, .slice A3 kt.length c3, .slice A4 kc.length c4] 26) ∧ Aside0 (At w' (w.heap.size + 1) #[.int .i64 0, .int .i64 0, .slice none 0 0, .slice none 0 0, .slice none 0 0] 46) ∧ Aside0 (At w' (w.heap.size + 1 + 1) #[.int .i64 hr, .int .i64 gr, va, vb, v2] 46) ∧ Aside0 (w'.ownsRow w.heap.size 74 3 v2 j (raw3 (fun i => (g60 kc i).f0) (fun i => (g60 kc i).f1) (fun i => (g60 kc i).f2) j)) ∧ Aside0 (w'.ownsRow w.heap.size 65 2 (va) (kl.length) (raw2 (fun i => (g54 kl i).f0) (fun i => (g54 kl i).f1) kl.length)) ∧ Aside0 (w'.ownsRow w.heap.size 73 2 (vb) (kt.length) (raw2 (fun i => (g58 kt i).f0) (fun i => (g58 kt i).f1) kt.length)) ∧ Aside0 (Below w.heap.size w w'))
          case atStart => exact ⟨0, .slice none 0 0, rfl, ⟨by omega⟩, H0, H1, H2, ⟨World.ownsRow_nil _ _ _ _⟩, HA, HB3, HB⟩
          case round =>
            clear H0 H1 H2 HA HB3 HB
            obtain ⟨j, v2, rfl, HK, H0, H1, H2, HR, HA, HB3, HB⟩ := hrel
            obtain ⟨V2, k2, hv2⟩ := own_form HR.out
            subst hv2
            by_cases hlt : j < kc.length
            · obtain ⟨k1, rfl⟩ : ∃ k1, gk = k1 + 1 := ⟨gk - 1, by have := HK.out; omega⟩
              obtain ⟨ad, ee, x0, x1, x2⟩ := at60 (Kd.C_below H60.out HB.out) j hlt
              cases ee
              generalize hxx : g60 kc j = x at x0 x1 x2
              have HX := Aside0.mk hxx
              clear hxx
              have hadlt : ad.block < w.heap.size := by
                obtain ⟨ad', ee', y0, _⟩ := at60 H60.out j hlt
                cases ee'
                have h := World.block_lt_of_cell? _ _ y0
                rwa [add_block] at h
              have hj2 : (j : Int) < kc.length := by omega
              have b0 := H0.out.cl
              have hl0 := H0.out.lt
              go_upto_region 14 with fail
              clear b0 hl0
              refine wp_new1 fun w7 B7 HB7 HZ7 => ?_
              replace H0 := Aside0.mk (H0.out.below HB7.out)
              replace H1 := Aside0.mk (H1.out.below HB7.out)
              replace H2 := Aside0.mk (H2.out.below HB7.out)
              replace HR := Aside0.mk (own_below HR.out HB7.out)
              replace HA := Aside0.mk (own_below HA.out HB7.out)
              replace HB3 := Aside0.mk (own_below HB3.out HB7.out)
              replace HB := Aside0.mk (below_step HB.out HB7.out)
              have b7 := B7.cl
              have l7 := B7.lt
              have l2 := H2.out.lt
              have b2 := H2.out.cl
              obtain ⟨ie, hi1, hi2, hi3, hi4⟩ := info74'
              have HI := Aside0.mk (And.intro hi1 (And.intro hi2 (And.intro hi3 hi4)))
              clear hi1 hi2 hi3 hi4 x0 x1 x2
              go_upto_region 12 with (at_builtin; refine wpList_append_own _ rfl (.tmp 69) (.tmp 77) 44 rfl w.heap.size 74 ie _ 3 24 Try.underlying44 HI.out.1 HI.out.2.1 HI.out.2.2.1 HI.out.2.2.2 rfl (by omega) (.slice V2 j k2) j (raw3 (fun i => (g60 kc i).f0) (fun i => (g60 kc i).f1) (fun i => (g60 kc i).f2) j) rfl (own_alloc HR.out _) ⟨w7.heap.size, 0, none⟩ 1 1 [.int .i64 x.f0, .int .i64 x.f1, .int .i64 x.f2] rfl rfl ?news (by simp [Value.oneCell']) (by unfold maxLen; omega) (by omega) ?base ?_; (case news => intro k u hk; match k, hk with | 0, hk => (simp at hk; subst hk; simp [Addr.add, (At.new w7 _ _).cl]) | 1, hk => (simp at hk; subst hk; simp [Addr.add, (At.new w7 _ _).cl]) | 2, hk => (simp at hk; subst hk; simp [Addr.add, (At.new w7 _ _).cl])); (case base => (have := HB.out.size; simp; omega)); intro v2' w11 hown hgr _; obtain ⟨V3, k3, hv⟩ := own_form hown; subst hv; have HO11 := Aside0.mk hown; have HG11 := Aside0.mk hgr; clear hown hgr b2 b7 l2 l7; have C2 := at_grown (H2.out.alloc (.cells #[.int .i64 x.f0, .int .i64 x.f1, .int .i64 x.f2] 74)) HG11.out (own_ne_at HR.out H2.out (by decide)); have b2 := C2.cl; have f2 := C2.fr)
              have hbd := below_alloc (Below.refl w7.heap.size w7) (.cells #[.int .i64 x.f0, .int .i64 x.f1, .int .i64 x.f2] 74)
              have hgr := HG11.out
              have hown := HO11.out
              have HBn := pw_below_grown (below_alloc HB.out (.cells #[.int .i64 x.f0, .int .i64 x.f1, .int .i64 x.f2] 74)) _ (by have h1 := HB.out.size; simp; omega) hgr (own_ge HR.out)
              have C_H0 := at_grown (H0.out.below hbd) hgr (own_ne_at (own_below HR.out hbd) (H0.out.below hbd) (by decide))
              have C_H1 := at_grown (H1.out.below hbd) hgr (own_ne_at (own_below HR.out hbd) (H1.out.below hbd) (by decide))
              have D_HA := own_grown (own_below HA.out hbd) hgr (own_ne_own (own_below HA.out hbd) (own_below HR.out hbd) (by decide))
              have D_HB3 := own_grown (own_below HB3.out hbd) hgr (own_ne_own (own_below HB3.out hbd) (own_below HR.out hbd) (by decide))
              clear b2 f2 hgr hbd HG11 HO11 HI HR H2 B7 HB7 HZ7 H0 H1 HA HB3
              have E2 := C2.set 4 (.slice V3 (j + 1) k3)
              have E2' : At (w11.setCell ⟨w.heap.size + 1 + 1, 4, none⟩ (.slice V3 (j + 1) k3)) (w.heap.size + 1 + 1) #[.int .i64 hr, .int .i64 gr, va, vb, .slice V3 (j + 1) k3] 46 := by simpa using E2
              have E_H0 := C_H0.far (p := ⟨w.heap.size + 1 + 1, 4, none⟩) (by show w.heap.size ≠ w.heap.size + 1 + 1; omega) (.slice V3 (j + 1) k3)
              have E_H1 := C_H1.far (p := ⟨w.heap.size + 1 + 1, 4, none⟩) (by show w.heap.size + 1 ≠ w.heap.size + 1 + 1; omega) (.slice V3 (j + 1) k3)
              have F_HA := own_set D_HA (own_ne_at D_HA C2 (by decide)) 4 (.slice V3 (j + 1) k3)
              have F_HB3 := own_set D_HB3 (own_ne_at D_HB3 C2 (by decide)) 4 (.slice V3 (j + 1) k3)
              have F2 := own_set hown (own_ne_at hown C2 (by decide)) 4 (.slice V3 (j + 1) k3)
              have HBz := HBn.setCell (p := ⟨w.heap.size + 1 + 1, 4, none⟩) (by show w.heap.size ≤ w.heap.size + 1 + 1; omega) (.slice V3 (j + 1) k3)
              have HRS := Aside0.mk (show raw3 (fun i => (g60 kc i).f0) (fun i => (g60 kc i).f1) (fun i => (g60 kc i).f2) (j + 1) = raw3 (fun i => (g60 kc i).f0) (fun i => (g60 kc i).f1) (fun i => (g60 kc i).f2) j ++ [.int .i64 x.f0, .int .i64 x.f1, .int .i64 x.f2] from by rw [raw3_succ]; show _ ++ ([Value.int .i64 (g60 kc j).f0, Value.int .i64 (g60 kc j).f1, Value.int .i64 (g60 kc j).f2] : List Value) = _; rw [HX.out])
              clear E2 C2 hown HBn HB C_H0 C_H1 D_HA D_HB3
              generalize w11.setCell ⟨w.heap.size + 1 + 1, 4, none⟩ (.slice V3 (j + 1) k3) = w12 at E2' F2 HBz E_H0 E_H1 F_HA F_HB3 ⊢
              go_wp2
              go_roundg k1
              case measure => omega
              case rel => exact ⟨j + 1, _, by go_num, ⟨by have := HK.out; omega⟩, ⟨E_H0⟩, ⟨E_H1⟩, ⟨E2'⟩, ⟨by rw [HRS.out]; exact F2⟩, ⟨F_HA⟩, ⟨F_HB3⟩, ⟨HBz⟩⟩
            · have hj : j = kc.length := by have := HK.out; omega
              subst hj
              obtain ⟨Va, ka, hva⟩ := own_form HA.out
              subst hva
              obtain ⟨Vb, kb, hvb⟩ := own_form HB3.out
              subst hvb
              have b0 := H0.out.cl
              have b2 := H2.out.cl
              have b1 := H1.out.cl
              have f1 := H1.out.fr
              go_wp2
              have B9 := (((((H1.out.set 0 (.int .i64 hr)).set 1 (.int .i64 gr)).set 2 (.slice Va kl.length ka)).set 3 (.slice Vb kt.length kb)).set 4 (.slice V2 kc.length k2))
              refine bodyPost_ret (results_cell_row rfl _ _ (w.heap.size + 1) 46 #[.int .i64 hr, .int .i64 gr, .slice Va kl.length ka, .slice Vb kt.length kb, .slice V2 kc.length k2] (0, 0) _ rfl (by simpa using B9.out) Try.underlying46 rfl (by kernel_rfl)) rfl ?_
              exact ⟨_, _, _, rfl, (own_set (own_set (own_set (own_set (own_set HA.out (own_ne_at HA.out H1.out (by decide)) 0 _) (own_ne_at HA.out H1.out (by decide)) 1 _) (own_ne_at HA.out H1.out (by decide)) 2 _) (own_ne_at HA.out H1.out (by decide)) 3 _) (own_ne_at HA.out H1.out (by decide)) 4 _), (own_set (own_set (own_set (own_set (own_set HB3.out (own_ne_at HB3.out H1.out (by decide)) 0 _) (own_ne_at HB3.out H1.out (by decide)) 1 _) (own_ne_at HB3.out H1.out (by decide)) 2 _) (own_ne_at HB3.out H1.out (by decide)) 3 _) (own_ne_at HB3.out H1.out (by decide)) 4 _), (own_set (own_set (own_set (own_set (own_set HR.out (own_ne_at HR.out H1.out (by decide)) 0 _) (own_ne_at HR.out H1.out (by decide)) 1 _) (own_ne_at HR.out H1.out (by decide)) 2 _) (own_ne_at HR.out H1.out (by decide)) 3 _) (own_ne_at HR.out H1.out (by decide)) 4 _), (((((HB.out.setCell (p := ⟨w.heap.size + 1, 0, none⟩) (by show w.heap.size ≤ w.heap.size + 1; omega) _).setCell (p := ⟨w.heap.size + 1, 1, none⟩) (by show w.heap.size ≤ w.heap.size + 1; omega) _).setCell (p := ⟨w.heap.size + 1, 2, none⟩) (by show w.heap.size ≤ w.heap.size + 1; omega) _).setCell (p := ⟨w.heap.size + 1, 3, none⟩) (by show w.heap.size ≤ w.heap.size + 1; omega) _).setCell (p := ⟨w.heap.size + 1, 4, none⟩) (by show w.heap.size ≤ w.heap.size + 1; omega) _)⟩

end Go.Proofs.Ytgdbnioodimlfaa.Wk
