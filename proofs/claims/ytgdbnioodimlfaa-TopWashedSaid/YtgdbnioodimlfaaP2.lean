/- The contracts of set, and of the two functions that turn ranges. Conditions stand in each theorem. -/
import Derived.Test.YtgdbnioodimlfaaSeq
import Derived.Test.YtgdbnioodimlfaaP1
import Derived.OwnWalk
namespace Go.Proofs.Ytgdbnioodimlfaa.Wk
open Go.RowKit Go.Proofs.YtgdbnioodimlfaaW.PrintWords Go.Proofs.YtgdbnioodimlfaaW.PrintLast Go.Proofs.YtgdbnioodimlfaaW.PrintMore Go.Proofs.Ytgdbnioodimlfaa.PTopWashed Go.Proofs.Ytgdbnioodimlfaa.Sq
attribute [local go_sem] max2_int min2_int max_two min_two max_three min_three max_four min_four
set_option linter.unusedVariables false
set_option linter.unusedSimpArgs false

theorem to35_calls (x y : Int) (w : World) : Calls Try.prog 35 #[.agg #[.int .i64 x, .int .i64 y]] w fun e w' => e = .returned (.agg #[.int .i64 x, .int .i64 y]) ∧ Below w.heap.size w w' := by
  go_enter Try.func35, Try.ntmps35
  go_upto_region 1 with fail
  refine wp_new2 fun w1 B1 B2 HB HZ => ?_
  have b1 := B1.cl
  have b2 := B2.cl
  have f2 := B2.fr
  go_wp2
  have B4 := (B2.set 0 (.int .i64 x)).set 1 (.int .i64 y)
  refine bodyPost_ret (results_cell_row rfl _ _ (w.heap.size + 1) 65 #[.int .i64 x, .int .i64 y] (0, 0) _ rfl (by simpa using B4.out) Try.underlying65 rfl (by kernel_rfl)) rfl ?_
  exact ⟨rfl, (HB.out.setCell (p := ⟨w.heap.size + 1, 0, none⟩) (by show w.heap.size ≤ w.heap.size + 1; omega) _).setCell (p := ⟨w.heap.size + 1, 1, none⟩) (by show w.heap.size ≤ w.heap.size + 1; omega) _⟩
theorem to25_calls (x y : Int) (w : World) : Calls Try.prog 25 #[.agg #[.int .i64 x, .int .i64 y]] w fun e w' => e = .returned (.agg #[.int .i64 x, .int .i64 y]) ∧ Below w.heap.size w w' := by
  go_enter Try.func25, Try.ntmps25
  go_upto_region 1 with fail
  refine wp_new2 fun w1 B1 B2 HB HZ => ?_
  have b1 := B1.cl
  have b2 := B2.cl
  have f2 := B2.fr
  go_wp2
  have B4 := (B2.set 0 (.int .i64 x)).set 1 (.int .i64 y)
  refine bodyPost_ret (results_cell_row rfl _ _ (w.heap.size + 1) 53 #[.int .i64 x, .int .i64 y] (0, 0) _ rfl (by simpa using B4.out) Try.underlying53 rfl (by kernel_rfl)) rfl ?_
  exact ⟨rfl, (HB.out.setCell (p := ⟨w.heap.size + 1, 0, none⟩) (by show w.heap.size ≤ w.heap.size + 1; omega) _).setCell (p := ⟨w.heap.size + 1, 1, none⟩) (by show w.heap.size ≤ w.heap.size + 1; omega) _⟩
theorem info54' : ∃ i, Try.prog.info? 54 = some i ∧ i.zero = some (.agg #[.int .i64 0, .int .i64 0]) ∧ i.size = 2 ∧ i.bytes = 16 := by
  have h := info54
  cases e : Try.prog.info? 54 with
  | none => rw [e] at h; cases h
  | some i =>
    rw [e] at h
    simp at h
    exact ⟨i, rfl, h.1, h.2.1, h.2.2⟩

theorem add_block (ad : Addr) (j : Nat) : (ad.add j).block = ad.block := by unfold Addr.add; split <;> rfl
theorem cell_grown {w w' : World} {a : Addr} {u : Value} {row : Option Nat} (h : w.cell? a = some u) (hg : w.grownBy w' row) (hne : some a.block ≠ row) : w'.cell? a = some u := (World.cell?_of_block (hg.block _ (World.block_lt_of_cell? _ _ h) hne)).trans h

set_option maxHeartbeats 1000000 in
theorem set_calls (hr gr tubs op clo : Int) (A2 : Option Addr) (n2 c2 : Nat) (A3 : Option Addr) (n3 c3 : Nat) (A4 : Option Addr) (n4 c4 : Nat) (A5 : Option Addr) (n5 c5 : Nat) (t : List Int) (At_ : Option Addr) (ct : Nat) (w : World) (ht : Kd.C (Kd.int .i64) w At_ t.length t) (hl : t.length ≤ 1000) :
    Calls Try.prog 8 #[.agg #[.int .i64 hr, .int .i64 gr, .slice A2 n2 c2, .slice A3 n3 c3, .slice A4 n4 c4, .int .i64 tubs, .int .i64 op, .int .i64 clo, .slice A5 n5 c5], .slice At_ t.length ct] w fun e w' => ∃ v2, e = .returned (.agg #[.int .i64 hr, .int .i64 gr, v2, .slice A3 n3 c3, .slice A4 n4 c4, .int .i64 tubs, .int .i64 op, .int .i64 clo, .slice A5 n5 c5]) ∧ w'.ownsRow w.heap.size 54 2 v2 t.length (raw2 (gi t) (gi t) t.length) ∧ Below w.heap.size w w' := by
  have HT := Aside0.mk ht
  clear ht
  go_enter Try.func8, Try.ntmps8
  go_upto_region 3 with fail
  refine wp_new3 fun w1 B1 B2 B3 HB HZ => ?_
  have H1 := Aside0.mk B2
  have H2 := Aside0.mk B3
  have hz := HZ.out
  clear B1 B2 B3
  go_wp2
  go_loopg [6] t.length (fun kq v6 w' => ∃ (j : Nat) (v2 : Value), v6 = .int .i64 (j : Int) ∧ Aside0 (j + kq = t.length) ∧ Aside0 (At w' (w.heap.size + 1) #[.int .i64 0, .int .i64 0, .slice none 0 0, .slice none 0 0, .slice none 0 0, .int .i64 0, .int .i64 0, .int .i64 0, .slice none 0 0] 28) ∧ Aside0 (At w' (w.heap.size + 1 + 1) #[.int .i64 hr, .int .i64 gr, v2, .slice A3 n3 c3, .slice A4 n4 c4, .int .i64 tubs, .int .i64 op, .int .i64 clo, .slice A5 n5 c5] 28) ∧ Aside0 (w'.ownsRow w.heap.size 54 2 v2 j (raw2 (gi t) (gi t) j)) ∧ Aside0 (Below w.heap.size w w'))
  case atStart => exact ⟨0, .slice none 0 0, rfl, ⟨by omega⟩, H1, H2, ⟨World.ownsRow_nil _ _ _ _⟩, HB⟩
  case round =>
    clear H1 H2 HB
    obtain ⟨j, v2, rfl, HK, H1, H2, HR, HB⟩ := hrel
    obtain ⟨V2, k2, hv2⟩ := own_form HR.out
    subst hv2
    by_cases hlt : j < t.length
    · obtain ⟨k1, rfl⟩ : ∃ k1, gk = k1 + 1 := ⟨gk - 1, by have := HK.out; omega⟩
      obtain ⟨ad, ee, x0w⟩ := at_nat HT.out j hlt
      cases ee
      have hadlt : ad.block < w.heap.size := by have h := World.block_lt_of_cell? _ _ x0w; rwa [add_block] at h
      have x0 := cell_b HB.out x0w
      generalize hx : gi t j = x at x0
      have HX := Aside0.mk hx
      clear hx x0w
      have hj2 : (j : Int) < t.length := by omega
      go_wp2
      refine region_seq [(0, 0), (1, 0), (2, 0), (3, 0), (4, 0), (5, 0), (6, 0), (7, 0), (8, 0), (9, 0), (10, 0), (11, 0), (12, 1), (13, 1), (14, 0), (15, 0), (16, 2)] (fun w' => At w' (w.heap.size + 1 + 1) #[.int .i64 hr, .int .i64 gr, .slice V2 j k2, .slice A3 n3 c3, .slice A4 n4 c4, .int .i64 tubs, .int .i64 op, .int .i64 clo, .slice A5 n5 c5] 28 ∧ w'.cell? (ad.add j) = some (.int .i64 x)) (by kernel_rfl) rfl (by kernel_rfl) (by intro _ _ d _ _ h; cases d <;> exact h) ⟨H2.out.drew, x0⟩ ?_
      repeat (first | (refine seq_off (a' := ?_) rfl rfl ?_ ?_; rotate_left; (· simp only [List.getElem_toArray, List.getElem_cons_succ, List.getElem_cons_zero, Act.put, List.setIfInBounds_toArray, List.set_cons_zero, List.set_cons_succ, i64_w, i32_w]; rfl)) | (refine seq_read (v := ?_) (a' := ?_) rfl rfl (fun w' hS => ?_) ?_ ?_; rotate_left 2; (· obtain ⟨S2, y0⟩ := hS; have b2 := S2.cl; go_simp; try with_reducible rfl); (· simp only [List.getElem_toArray, List.getElem_cons_succ, List.getElem_cons_zero, Act.put, List.setIfInBounds_toArray, List.set_cons_zero, List.set_cons_succ, i64_w, i32_w]; rfl)))
      refine seq_do rfl (fun hS => ?_)
      simp only [List.getElem_toArray, List.getElem_cons_succ, List.getElem_cons_zero]
      go_wp2
      refine ⟨⟨hS.1.alloc _, cell_b (below_alloc (Below.refl _ _) _) hS.2⟩, ?_⟩
      refine seq_do rfl (fun hS => ?_)
      simp only [List.getElem_toArray, List.getElem_cons_succ, List.getElem_cons_zero]
      obtain ⟨i54, hi1, hi2, hi3, hi4⟩ := info54'
      have hbd : Below wr.heap.size wr (wr.alloc (.cells #[.int .i64 x, .int .i64 x] 54)).drew := (below_alloc (Below.refl _ _) _).drew
      refine wpList_append_own _ rfl (.tmp 18) (.tmp 28) 22 rfl w.heap.size 54 i54 _ 2 16 Try.underlying22 hi1 hi2 hi3 hi4 rfl (by omega) (.slice V2 j k2) j (raw2 (gi t) (gi t) j) rfl (own_below HR.out hbd) ⟨wr.heap.size, 0, none⟩ 1 1 [.int .i64 x, .int .i64 x] rfl rfl ?news (by simp [Value.oneCell']) (by unfold maxLen; omega) (by omega) ?base ?_
      case news =>
        intro k u hk
        match k, hk with
        | 0, hk => simp at hk; subst hk; simp [Addr.add, (At.new wr _ _).drew.cl]
        | 1, hk => simp at hk; subst hk; simp [Addr.add, (At.new wr _ _).drew.cl]
      case base => have h1 := HB.out.size; have h2 := hbd.size; omega
      intro v2' w11 hown hgr _
      obtain ⟨V3, k3, hv⟩ := own_form hown
      subst hv
      have HBn := pw_below_grown (below_then HB.out HB.out.size hbd) _ (by have h1 := HB.out.size; have h2 := hbd.size; omega) hgr (own_ge HR.out)
      have C1 := at_grown (H1.out.below hbd) hgr (own_ne_at (own_below HR.out hbd) (H1.out.below hbd) (by decide))
      have C2 := at_grown (H2.out.below hbd) hgr (own_ne_at (own_below HR.out hbd) (H2.out.below hbd) (by decide))
      have y0 := cell_grown (cell_b hbd x0) hgr (by intro e; have := own_ge HR.out _ e.symm; have e2 := add_block ad j
                                                    omega)
      refine ⟨⟨C2, y0⟩, ?_⟩
      repeat (first | (refine seq_off (a' := ?_) rfl rfl ?_ ?_; rotate_left; (· simp only [List.getElem_toArray, List.getElem_cons_succ, List.getElem_cons_zero, Act.put, List.setIfInBounds_toArray, List.set_cons_zero, List.set_cons_succ, i64_w, i32_w]; rfl)) | (refine seq_read (v := ?_) (a' := ?_) rfl rfl (fun w' hS => ?_) ?_ ?_; rotate_left 2; (· obtain ⟨S2, y0⟩ := hS; have b2 := S2.cl; go_simp; try with_reducible rfl); (· simp only [List.getElem_toArray, List.getElem_cons_succ, List.getElem_cons_zero, Act.put, List.setIfInBounds_toArray, List.set_cons_zero, List.set_cons_succ, i64_w, i32_w]; rfl)))
      refine seq_last rfl ?_
      simp only [List.getElem_toArray, List.getElem_cons_succ, List.getElem_cons_zero]
      have b2 := C2.cl
      have f2 := C2.fr
      clear hS x0 y0 hgr hbd hi1 hi2 hi3 hi4 HR H1 H2
      go_wp2
      refine seq_done ?_
      have E2 := C2.set 2 (.slice V3 (j + 1) k3)
      have E2' : At (w11.setCell ⟨w.heap.size + 1 + 1, 2, none⟩ (.slice V3 (j + 1) k3)) (w.heap.size + 1 + 1) #[.int .i64 hr, .int .i64 gr, .slice V3 (j + 1) k3, .slice A3 n3 c3, .slice A4 n4 c4, .int .i64 tubs, .int .i64 op, .int .i64 clo, .slice A5 n5 c5] 28 := by simpa using E2
      have E1 := C1.far (p := ⟨w.heap.size + 1 + 1, 2, none⟩) (by show w.heap.size + 1 ≠ w.heap.size + 1 + 1; omega) (.slice V3 (j + 1) k3)
      have F2 := own_set hown (own_ne_at hown C2 (by decide)) 2 (.slice V3 (j + 1) k3)
      have HBz := HBn.setCell (p := ⟨w.heap.size + 1 + 1, 2, none⟩) (by show w.heap.size ≤ w.heap.size + 1 + 1; omega) (.slice V3 (j + 1) k3)
      have hrs : raw2 (gi t) (gi t) (j + 1) = raw2 (gi t) (gi t) j ++ [.int .i64 x, .int .i64 x] := by rw [raw2_succ, HX.out]
      have HRS := Aside0.mk hrs
      clear b2 f2 E2 C1 C2 hown HBn HB hrs
      generalize w11.setCell ⟨w.heap.size + 1 + 1, 2, none⟩ (.slice V3 (j + 1) k3) = w12 at E2' E1 F2 HBz ⊢
      go_wp2
      go_roundg k1
      case measure => omega
      case rel => exact ⟨j + 1, _, by go_num, ⟨by have := HK.out; omega⟩, ⟨E1⟩, ⟨E2'⟩, ⟨by rw [HRS.out]; exact F2⟩, ⟨HBz⟩⟩
    · have hj : j = t.length := by have := HK.out; omega
      subst hj
      have b2 := H2.out.cl
      have b1 := H1.out.cl
      have f1 := H1.out.fr
      go_wp2
      have B9 := (((((((((H1.out.set 0 (.int .i64 hr)).set 1 (.int .i64 gr)).set 2 (.slice V2 t.length k2)).set 3 (.slice A3 n3 c3)).set 4 (.slice A4 n4 c4)).set 5 (.int .i64 tubs)).set 6 (.int .i64 op)).set 7 (.int .i64 clo)).set 8 (.slice A5 n5 c5))
      refine bodyPost_ret (results_cell_row rfl _ _ (w.heap.size + 1) 28 #[.int .i64 hr, .int .i64 gr, .slice V2 t.length k2, .slice A3 n3 c3, .slice A4 n4 c4, .int .i64 tubs, .int .i64 op, .int .i64 clo, .slice A5 n5 c5] (0, 0) _ rfl (by simpa using B9.out) Try.underlying28 rfl (by kernel_rfl)) rfl ?_
      exact ⟨_, rfl, (own_set (own_set (own_set (own_set (own_set (own_set (own_set (own_set (own_set HR.out (own_ne_at HR.out H1.out (by decide)) 0 _) (own_ne_at HR.out H1.out (by decide)) 1 _) (own_ne_at HR.out H1.out (by decide)) 2 _) (own_ne_at HR.out H1.out (by decide)) 3 _) (own_ne_at HR.out H1.out (by decide)) 4 _) (own_ne_at HR.out H1.out (by decide)) 5 _) (own_ne_at HR.out H1.out (by decide)) 6 _) (own_ne_at HR.out H1.out (by decide)) 7 _) (own_ne_at HR.out H1.out (by decide)) 8 _), (((((((((HB.out.setCell (p := ⟨w.heap.size + 1, 0, none⟩) (by show w.heap.size ≤ w.heap.size + 1; omega) _).setCell (p := ⟨w.heap.size + 1, 1, none⟩) (by show w.heap.size ≤ w.heap.size + 1; omega) _).setCell (p := ⟨w.heap.size + 1, 2, none⟩) (by show w.heap.size ≤ w.heap.size + 1; omega) _).setCell (p := ⟨w.heap.size + 1, 3, none⟩) (by show w.heap.size ≤ w.heap.size + 1; omega) _).setCell (p := ⟨w.heap.size + 1, 4, none⟩) (by show w.heap.size ≤ w.heap.size + 1; omega) _).setCell (p := ⟨w.heap.size + 1, 5, none⟩) (by show w.heap.size ≤ w.heap.size + 1; omega) _).setCell (p := ⟨w.heap.size + 1, 6, none⟩) (by show w.heap.size ≤ w.heap.size + 1; omega) _).setCell (p := ⟨w.heap.size + 1, 7, none⟩) (by show w.heap.size ≤ w.heap.size + 1; omega) _).setCell (p := ⟨w.heap.size + 1, 8, none⟩) (by show w.heap.size ≤ w.heap.size + 1; omega) _)⟩

end Go.Proofs.Ytgdbnioodimlfaa.Wk
