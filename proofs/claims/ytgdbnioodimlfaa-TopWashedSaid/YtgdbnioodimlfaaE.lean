/- The contracts of what is asked of one truth: off, hours, from; of wider and of bounds. Conditions stand in each theorem. -/
import Derived.Test.YtgdbnioodimlfaaSeq
import Derived.Test.YtgdbnioodimlfaaD
namespace Go.Proofs.Ytgdbnioodimlfaa.Wk
open Go.RowKit Go.Proofs.YtgdbnioodimlfaaW.PrintWords Go.Proofs.YtgdbnioodimlfaaW.PrintLast Go.Proofs.YtgdbnioodimlfaaW.PrintMore Go.Proofs.Ytgdbnioodimlfaa.PTopWashed Go.Proofs.Ytgdbnioodimlfaa.Sq
attribute [local go_sem] max2_int min2_int max_two min_two max_three min_three max_four min_four
set_option linter.unusedVariables false
set_option linter.unusedSimpArgs false

section
variable {A2 : Option Addr} {c2 : Nat} {A3 : Option Addr} {c3 : Nat} {A4 : Option Addr} {c4 : Nat} {cl : List S65} {ti : List S73} {cp : List S74}
theorem cell_b {w w' : World} {a : Addr} {v : Value} (hS : Below w.heap.size w w') (h : w.cell? a = some v) : w'.cell? a = some v := (hS.cell (World.block_lt_of_cell? _ _ h)).trans h
theorem seq_at {P : Program} {ops : Array Oper} {Q : Exit → Act → World → Prop} {S : World → Prop} {ks : Plan} {a : Act} {B : Nat} {w0 w : World} (hS : Below B w0 w) (h : ∀ w', Below B w0 w' → wpSeq P ops Q S ks a w') : wpSeq P ops Q S ks a w := h w hS
theorem seq_at1 {P : Program} {ops : Array Oper} {Q : Exit → Act → World → Prop} {S : World → Prop} {ks : Plan} {a : Act} {B g : Nat} {cs : Array Value} {t : TypeId} {w0 w : World} (hS : Below B w0 w) (hA : At w g cs t) (h : ∀ w', Below B w0 w' → At w' g cs t → wpSeq P ops Q S ks a w') : wpSeq P ops Q S ks a w := h w hS hA
theorem off71_calls (e0 e1 e2 e3 : Int) (p : Value) (k : Nat) (w : World) (hk : k < 4) (hp : p.oneCell' = true) : Calls Try.prog 71 #[p, .agg #[.int .i64 e0, .int .i64 e1, .int .i64 e2, .int .i64 e3], .int .i64 (k : Int)] w fun e w' => e = .returned (.int .i64 (sel4 e0 e1 e2 e3 k)) ∧ Below w.heap.size w w' := by
  have HG := Aside0.mk (get4 e0 e1 e2 e3 k (by omega) (by omega))
  have hk4 : (k : Int) < 4 := by omega
  go_enter Try.func71, Try.ntmps71
  go_wp2
  go_ret
  refine ⟨?_, below_alloc (Below.refl _ _) _⟩
  match k, hk with
  | 0, _ => rfl
  | 1, _ => rfl
  | 2, _ => rfl
  | 3, _ => rfl

theorem wider_calls (n : Int) (w : World) : Calls Try.prog 54 #[.agg #[.int .i64 n, .int .i64 n], .int .i64 n] w fun e w' => e = .returned (.agg #[.int .i64 n, .int .i64 n]) ∧ Below w.heap.size w w' := by
  go_enter Try.func54, Try.ntmps54
  go_wp2
  refine wp_new2 fun w1 B1 B2 HB HZ => ?_
  refine region_b [(0, 0), (1, 0), (2, 0), (5, 0), (6, 0), (7, 0), (8, 0), (3, 1), (4, 1), (9, 0), (10, 2)] (by kernel_rfl) rfl (by kernel_rfl) (by intro _ _ d _ _ h; cases d <;> exact h) ?_
  repeat (first | (refine seq_off (a' := ?_) rfl rfl ?_ ?_; rotate_left; (· simp only [List.getElem_toArray, List.getElem_cons_succ, List.getElem_cons_zero, Act.put, List.setIfInBounds_toArray, List.set_cons_zero, List.set_cons_succ, i64_w, i32_w]; rfl)) | (refine seq_read (v := ?_) (a' := ?_) rfl rfl (fun w' hS => ?_) ?_ ?_; rotate_left 2; (· have b1 := (B1.below hS).cl; have b2 := (B2.below hS).cl; go_simp; try with_reducible rfl); (· simp only [List.getElem_toArray, List.getElem_cons_succ, List.getElem_cons_zero, Act.put, List.setIfInBounds_toArray, List.set_cons_zero, List.set_cons_succ, i64_w, i32_w]; rfl)))
  refine seq_do rfl (fun hS => ?_)
  simp only [List.getElem_toArray, List.getElem_cons_succ, List.getElem_cons_zero]
  go_wp2
  refine ⟨below_alloc hS _, ?_⟩
  refine seq_do rfl (fun hS2 => ?_)
  simp only [List.getElem_toArray, List.getElem_cons_succ, List.getElem_cons_zero]
  go_wp2_with (go_at_call 67; refine (minimum67_calls [n, n] _ 2 _ (C_of_at (At.drew (At.new _ _ _)) _ (by simp) ?c1) (by simp) (by simp)).mono ?_; (case c1 => intro j x hx; match j, hx with | 0, hx => (simp at hx; subst hx; rfl) | 1, hx => (simp at hx; subst hx; rfl)); rintro e w3 ⟨rfl, rfl⟩)
  refine ⟨hS2, seq_at hS2 fun w3 hS3 => ?_⟩
  repeat (first | (refine seq_off (a' := ?_) rfl rfl ?_ ?_; rotate_left; (· simp only [List.getElem_toArray, List.getElem_cons_succ, List.getElem_cons_zero, Act.put, List.setIfInBounds_toArray, List.set_cons_zero, List.set_cons_succ, i64_w, i32_w]; rfl)) | (refine seq_read (v := ?_) (a' := ?_) rfl rfl (fun w' hS => ?_) ?_ ?_; rotate_left 2; (· have b1 := (B1.below hS).cl; have b2 := (B2.below hS).cl; go_simp; try with_reducible rfl); (· simp only [List.getElem_toArray, List.getElem_cons_succ, List.getElem_cons_zero, Act.put, List.setIfInBounds_toArray, List.set_cons_zero, List.set_cons_succ, i64_w, i32_w]; rfl)))
  refine seq_last rfl ?_
  simp only [List.getElem_toArray, List.getElem_cons_succ, List.getElem_cons_zero]
  have B3 := B2.below hS3
  have b3 := B3.cl
  have f3 := B3.fr
  go_wp2
  refine seq_done ?_
  go_wp2
  have B4 := (B3.set 0 (.int .i64 (minL [n, n]))).set 1 (.int .i64 n)
  refine bodyPost_ret (results_cell_row rfl _ _ (w.heap.size + 1) 65 #[.int .i64 (minL [n, n]), .int .i64 n] (0, 0) _ rfl (by simpa using B4.out) Try.underlying65 rfl (by kernel_rfl)) rfl ?_
  exact ⟨by simp [minL, mn], ((below_step HB.out hS3).setCell (p := ⟨w.heap.size + 1, 0, none⟩) (by show w.heap.size ≤ w.heap.size + 1; omega) _).setCell (p := ⟨w.heap.size + 1, 1, none⟩) (by show w.heap.size ≤ w.heap.size + 1; omega) _⟩

/-- The hours of the clips of a ticket. -/
def hrs (hr gr e0 e1 e2 e3 : Int) (l : List S74) : Int := if l.length < 2 then 0 else Int.tdiv (mx 0 (tm e0 e1 e2 e3 (g74 l 1) - tm e0 e1 e2 e3 (g74 l 0) - gr) + hr - 1) hr
theorem td_bd {n h : Int} (h0 : 0 ≤ n) (h1 : 1 ≤ h) : 0 ≤ n.tdiv h ∧ n.tdiv h ≤ n := by
  rw [Int.tdiv_eq_ediv_of_nonneg h0]
  exact ⟨Int.ediv_nonneg h0 (by omega), Int.ediv_le_self _ h0⟩
theorem of_cp {hr gr : Int} (O : Okh hr gr cl ti cp) (i : Int) (j : Nat) (hj : j < (ofL cp i).length) : 0 ≤ (g74 (ofL cp i) j).f1 ∧ (g74 (ofL cp i) j).f1 < 4 ∧ 0 ≤ (g74 (ofL cp i) j).f2 ∧ (g74 (ofL cp i) j).f2 ≤ 1439 := by
  have h := O.cp1 _ (List.mem_filter.1 (g74_mem (ofL cp i) j hj)).1
  have := O.n2
  exact ⟨h.2.2.1, by omega, h.2.2.2.2.1, h.2.2.2.2.2⟩
theorem WorkIn.below {w w1 : World} {b : Nat} {hc : List Value} {e0 e1 e2 e3 : Int} (h : WorkIn w b hc e0 e1 e2 e3) (hb : Below w.heap.size w w1) : WorkIn w1 b hc e0 e1 e2 e3 := by
  obtain ⟨tb, cap, mv, cs, h1, h2, h3⟩ := h.out
  exact ⟨tb, cap, mv, cs, h1.below hb, h2.below hb, h3⟩

set_option maxHeartbeats 1000000 in
theorem hours_calls (hr gr e0 e1 e2 e3 : Int) (b k : Nat) (w : World) (H : HouseIn w A2 c2 A3 c3 A4 c4 cl ti cp) (O : Okh hr gr cl ti cp) (hS : Small e0 e1 e2 e3) (W : WorkIn w b [.int .i64 hr, .int .i64 gr, .slice A2 cl.length c2, .slice A3 ti.length c3, .slice A4 cp.length c4] e0 e1 e2 e3) :
    Calls Try.prog 33 #[.pointer (some ⟨b, 0, none⟩), .agg #[.int .i64 e0, .int .i64 e1, .int .i64 e2, .int .i64 e3], .int .i64 (k : Int)] w fun e w' => e = .returned (.int .i64 (hrs hr gr e0 e1 e2 e3 (ofL cp k))) ∧ Below w.heap.size w w' := by
  have HI := Aside0.mk H
  have HO := Aside0.mk O
  have HS := Aside0.mk hS
  obtain ⟨tb, cap, mv, cs, hA, _⟩ := W.out
  simp only [List.cons_append, List.nil_append] at hA
  clear H O hS W
  have hlt := hA.lt
  have bb := hA.cl
  go_enter Try.func33, Try.ntmps33
  go_wp2_with (go_at_call 52; refine (of_calls hr gr (k : Int) _ (HI.out.below (below_alloc (Below.refl _ _) _)) (by have := HO.out.n4; omega)).mono ?_; rintro e w2 ⟨Ao, co, rfl, hlen, hC, hb⟩; obtain ⟨B1, HB⟩ := one_new hb; clear hb; replace hA := hA.below HB.out; clear bb; have bb := hA.cl)
  · go_ret
    exact ⟨by rw [hrs, if_pos (by omega)]; rfl, HB.out⟩
  · have hl2 : 2 ≤ (ofL cp k).length := by omega
    have hi1 : (1 : Int) < ((ofL cp k).length : Int) := by omega
    have hi0 : 0 < (ofL cp k).length := by omega
    have HP1 := Aside0.mk (of_cp HO.out k 1 (by omega))
    have HP0 := Aside0.mk (of_cp HO.out k 0 (by omega))
    obtain ⟨ad, ee, x0, x1, x2⟩ := at74 hC 1 (by omega)
    obtain ⟨ad2, ee2, y0, y1, y2⟩ := at74 hC 0 (by omega)
    cases ee
    cases ee2
    have HH := Aside0.mk (show hrs hr gr e0 e1 e2 e3 (ofL cp k) = Int.tdiv (mx 0 (tm e0 e1 e2 e3 (g74 (ofL cp k) 1) - tm e0 e1 e2 e3 (g74 (ofL cp k) 0) - gr) + hr - 1) hr from by rw [hrs, if_neg (by omega)])
    generalize g74 (ofL cp k) 1 = x at x0 x1 x2 HP1 HH
    generalize g74 (ofL cp k) 0 = y at y0 y1 y2 HP0 HH
    rw [Nat.zero_mul, add_zero] at y0 y1 y2
    simp [Addr.add] at x0 x1 x2
    refine region_b [(0, 0), (1, 0), (2, 0), (3, 0), (5, 0), (6, 0), (7, 0), (8, 0), (11, 0), (12, 0), (13, 0), (14, 0), (15, 0), (4, 1), (9, 1), (10, 0), (16, 0), (17, 0), (18, 0)] (by kernel_rfl) rfl (by kernel_rfl) (by intro _ _ d _ _ h; cases d <;> exact h) ?_
    repeat (first | (refine seq_off (a' := ?_) rfl rfl ?_ ?_; rotate_left; (· simp only [List.getElem_toArray, List.getElem_cons_succ, List.getElem_cons_zero, Act.put, List.setIfInBounds_toArray, List.set_cons_zero, List.set_cons_succ, i64_w, i32_w]; rfl)) | (refine seq_read (v := ?_) (a' := ?_) rfl rfl (fun w' hS => ?_) ?_ ?_; rotate_left 2; (· have b1 := (B1.below hS).cl; have bb := (hA.below hS).cl; have p0 := cell_b hS x0; have p1 := cell_b hS x1; have p2 := cell_b hS x2; have q0 := cell_b hS y0; have q1 := cell_b hS y1; have q2 := cell_b hS y2; go_simp; try with_reducible rfl); (· simp only [List.getElem_toArray, List.getElem_cons_succ, List.getElem_cons_zero, Act.put, List.setIfInBounds_toArray, List.set_cons_zero, List.set_cons_succ, i64_w, i32_w]; rfl)))
    refine seq_do rfl (fun hS => ?_)
    simp only [List.getElem_toArray, List.getElem_cons_succ, List.getElem_cons_zero]
    go_wp2_with (go_at_call 53; refine (minuteT_calls e0 e1 e2 e3 x _ HS.out HP1.out.1 HP1.out.2.1 HP1.out.2.2.1 HP1.out.2.2.2).mono ?_; rintro e w3 ⟨rfl, hb⟩; have hS3 := below_step hS hb)
    refine ⟨hS3, seq_at hS3 fun w4 hS4 => ?_⟩
    clear hS hS3 hb
    refine seq_do rfl (fun hS => ?_)
    simp only [List.getElem_toArray, List.getElem_cons_succ, List.getElem_cons_zero]
    go_wp2_with (go_at_call 53; refine (minuteT_calls e0 e1 e2 e3 y _ HS.out HP0.out.1 HP0.out.2.1 HP0.out.2.2.1 HP0.out.2.2.2).mono ?_; rintro e w3 ⟨rfl, hb⟩; have hS5 := below_step hS4 hb)
    refine ⟨hS5, seq_at hS5 fun w6 hS6 => ?_⟩
    clear hS hS4 hS5 hb
    repeat (first | (refine seq_off (a' := ?_) rfl rfl ?_ ?_; rotate_left; (· simp only [List.getElem_toArray, List.getElem_cons_succ, List.getElem_cons_zero, Act.put, List.setIfInBounds_toArray, List.set_cons_zero, List.set_cons_succ, i64_w, i32_w]; rfl)) | (refine seq_read (v := ?_) (a' := ?_) rfl rfl (fun w' hS => ?_) ?_ ?_; rotate_left 2; (· have b1 := (B1.below hS).cl; have bb := (hA.below hS).cl; have p0 := cell_b hS x0; have p1 := cell_b hS x1; have p2 := cell_b hS x2; have q0 := cell_b hS y0; have q1 := cell_b hS y1; have q2 := cell_b hS y2; go_simp; try with_reducible rfl); (· simp only [List.getElem_toArray, List.getElem_cons_succ, List.getElem_cons_zero, Act.put, List.setIfInBounds_toArray, List.set_cons_zero, List.set_cons_succ, i64_w, i32_w]; rfl)))
    refine seq_done ?_
    have hA6 := hA.below hS6
    have HB6 := Aside0.mk (below_step HB.out hS6)
    clear bb x0 x1 x2 y0 y1 y2 hS6 B1 hC hA
    have hne : (hr == 0) = false := by have := HO.out.hr1; simp; omega
    have hne2 : hr ≠ 0 := by have := HO.out.hr1; omega
    go_wp2
    all_goals
      refine region_b [(0, 0), (1, 0), (2, 0), (3, 0), (4, 0), (5, 0), (6, 0), (7, 0), (8, 0), (9, 0), (10, 0), (11, 0), (12, 0), (13, 0), (14, 0)] (by kernel_rfl) rfl (by kernel_rfl) (by intro _ _ d _ _ h; cases d <;> exact h) ?_
      repeat (first | (refine seq_off (a' := ?_) rfl rfl ?_ ?_; rotate_left; (· simp only [List.getElem_toArray, List.getElem_cons_succ, List.getElem_cons_zero, Act.put, List.setIfInBounds_toArray, List.set_cons_zero, List.set_cons_succ, i64_w, i32_w]; rfl)) | (refine seq_read (v := ?_) (a' := ?_) rfl rfl (fun w' hS => ?_) ?_ ?_; rotate_left 2; (· have bb := (hA6.below hS).cl; go_simp; try with_reducible rfl); (· simp only [List.getElem_toArray, List.getElem_cons_succ, List.getElem_cons_zero, Act.put, List.setIfInBounds_toArray, List.set_cons_zero, List.set_cons_succ, i64_w, i32_w]; rfl)))
      refine seq_done ?_
      go_wp2
      go_ret
      refine ⟨?_, HB6.out.drew⟩
      rw [HH.out]
      have hx : -30 ≤ tm e0 e1 e2 e3 x ∧ tm e0 e1 e2 e3 x ≤ 1469 := by have := HS.out.sel x.f1; have := HP1.out; unfold tm; omega
      have hy : -30 ≤ tm e0 e1 e2 e3 y ∧ tm e0 e1 e2 e3 y ≤ 1469 := by have := HS.out.sel y.f1; have := HP0.out; unfold tm; omega
      have hg : 0 ≤ gr ∧ gr ≤ 60 ∧ 1 ≤ hr ∧ hr ≤ 120 := ⟨HO.out.gr1, HO.out.gr2, HO.out.hr1, HO.out.hr2⟩
      have hW : wrap64 (wrap64 (tm e0 e1 e2 e3 x - tm e0 e1 e2 e3 y) - gr) = tm e0 e1 e2 e3 x - tm e0 e1 e2 e3 y - gr := by
        rw [w64 (x := tm e0 e1 e2 e3 x - tm e0 e1 e2 e3 y) (by omega) (by omega), w64 (by omega) (by omega)]
      first
        | (have h : 0 < wrap64 (wrap64 (tm e0 e1 e2 e3 x - tm e0 e1 e2 e3 y) - gr) := by assumption
           rw [hW] at h
           have hd := td_bd (n := tm e0 e1 e2 e3 x - tm e0 e1 e2 e3 y - gr + hr - 1) (h := hr) (by omega) (by omega)
           show Ending.returned (Value.int .i64 (wrap64 (Int.tdiv (wrap64 (wrap64 (wrap64 (wrap64 (tm e0 e1 e2 e3 x - tm e0 e1 e2 e3 y) - gr) + hr) - 1)) hr))) = _
           rw [hW, w64 (x := tm e0 e1 e2 e3 x - tm e0 e1 e2 e3 y - gr + hr) (by omega) (by omega), w64 (x := tm e0 e1 e2 e3 x - tm e0 e1 e2 e3 y - gr + hr - 1) (by omega) (by omega), w64 (by omega) (by omega), mx, if_pos h])
        | (have h : ¬ 0 < wrap64 (wrap64 (tm e0 e1 e2 e3 x - tm e0 e1 e2 e3 y) - gr) := by first | assumption | (intro h0; omega)
           rw [hW] at h
           have hd := td_bd (n := hr - 1) (h := hr) (by omega) (by omega)
           show Ending.returned (Value.int .i64 (wrap64 (Int.tdiv (wrap64 (wrap64 hr - 1)) hr))) = _
           rw [w64 (x := hr) (by omega) (by omega), w64 (x := hr - 1) (by omega) (by omega), w64 (by omega) (by omega), mx, if_neg h, Int.zero_add])
end

end Go.Proofs.Ytgdbnioodimlfaa.Wk
