/- The contract of from: the minute from which on a tub is free, in one truth. Conditions stand in each theorem. -/
import Derived.Test.YtgdbnioodimlfaaSeq
import Derived.Test.YtgdbnioodimlfaaE
namespace Go.Proofs.Ytgdbnioodimlfaa.Wk
open Go.RowKit Go.Proofs.YtgdbnioodimlfaaW.PrintWords Go.Proofs.YtgdbnioodimlfaaW.PrintLast Go.Proofs.YtgdbnioodimlfaaW.PrintMore Go.Proofs.Ytgdbnioodimlfaa.PTopWashed Go.Proofs.Ytgdbnioodimlfaa.Sq
attribute [local go_sem] max2_int min2_int max_two min_two max_three min_three max_four min_four
set_option linter.unusedVariables false
set_option linter.unusedSimpArgs false

section
variable {A2 : Option Addr} {c2 : Nat} {A3 : Option Addr} {c3 : Nat} {A4 : Option Addr} {c4 : Nat} {cl : List S65} {ti : List S73} {cp : List S74}
/-- The minute from which on a tub is free, by the first tickets. -/
def frmK (e0 e1 e2 e3 : Int) (ti : List S73) (cp : List S74) (tub : Int) : Nat → Int
  | 0 => 0
  | j + 1 => if (g73 ti j).f0 = tub ∧ (ofL cp (j : Int)).length = 2 then mx (frmK e0 e1 e2 e3 ti cp tub j) (tm e0 e1 e2 e3 (g74 (ofL cp (j : Int)) 1)) else frmK e0 e1 e2 e3 ti cp tub j

set_option maxHeartbeats 1000000 in
theorem from_calls (hr gr e0 e1 e2 e3 tb : Int) (b : Nat) (w : World) (H : HouseIn w A2 c2 A3 c3 A4 c4 cl ti cp) (O : Okh hr gr cl ti cp) (hS : Small e0 e1 e2 e3) (W : WorkIn w b [.int .i64 hr, .int .i64 gr, .slice A2 cl.length c2, .slice A3 ti.length c3, .slice A4 cp.length c4] e0 e1 e2 e3) :
    Calls Try.prog 38 #[.pointer (some ⟨b, 0, none⟩), .agg #[.int .i64 e0, .int .i64 e1, .int .i64 e2, .int .i64 e3], .int .i64 tb] w fun e w' => e = .returned (.int .i64 (frmK e0 e1 e2 e3 ti cp tb ti.length)) ∧ Below w.heap.size w w' := by
  have HI := Aside0.mk H
  have HO := Aside0.mk O
  have HS := Aside0.mk hS
  obtain ⟨gt, cap, mv, cs, hA, _⟩ := W.out
  simp only [List.cons_append, List.nil_append] at hA
  have HA := Aside0.mk hA
  clear H O hS W
  have hlt := hA.lt
  have bb := hA.cl
  go_enter Try.func38, Try.ntmps38
  go_wp2
  refine wp_new1 fun w1 B1 HB HZ => ?_
  clear bb hA
  go_loopg [6, 16] ti.length (fun kq v6 v16 w' => ∃ j : Nat, v6 = .int .i64 (frmK e0 e1 e2 e3 ti cp tb j) ∧ v16 = .int .i64 (j : Int) ∧ Aside0 (j + kq = ti.length) ∧ At w' w.heap.size #[.int .i64 e0, .int .i64 e1, .int .i64 e2, .int .i64 e3] 103 ∧ Aside0 (Below w.heap.size w w'))
  case atStart => exact ⟨0, rfl, rfl, ⟨by omega⟩, B1, HB⟩
  case round =>
    clear B1 HB
    obtain ⟨j, rfl, rfl, HK, B1, HB⟩ := hrel
    by_cases hlt2 : j < ti.length
    · obtain ⟨k1, rfl⟩ : ∃ k1, gk = k1 + 1 := ⟨gk - 1, by have := HK.out; omega⟩
      have hn3 := HO.out.n3
      obtain ⟨ad, ee, x0, x1⟩ := at73 (HI.out.below HB.out).r3 j hlt2
      cases ee
      have HF := Aside0.mk (show frmK e0 e1 e2 e3 ti cp tb (j + 1) = if (g73 ti j).f0 = tb ∧ (ofL cp (j : Int)).length = 2 then mx (frmK e0 e1 e2 e3 ti cp tb j) (tm e0 e1 e2 e3 (g74 (ofL cp (j : Int)) 1)) else frmK e0 e1 e2 e3 ti cp tb j from rfl)
      generalize g73 ti j = x at x0 x1 HF
      have b1 := B1.cl
      have hA := HA.out.below HB.out
      have hlt3 := hA.lt
      have bb := hA.cl
      by_cases ht : x.f0 = tb
      · have q1 : (x.f0 == tb) = true := by simp [ht]
        by_cases hl2 : (ofL cp (j : Int)).length = 2
        · have q2 : (((ofL cp (j : Int)).length : Int) == 2) = true := by simp [hl2]
          go_wp2_with (go_at_call 52; refine (of_calls hr gr (j : Int) _ (HI.out.below (below_alloc HB.out _)) (by have := HO.out.n4; omega)).mono ?_; rintro e w2 ⟨Ao, co, rfl, hlen, hC, hb⟩; obtain ⟨B3, HB3⟩ := one_new hb; clear hb; replace B1 := B1.below HB3.out; replace HB := Aside0.mk (below_step HB.out HB3.out); clear b1 bb hA; have b3 := B3.cl)
          have HP := Aside0.mk (of_cp HO.out (j : Int) 1 (by omega))
          obtain ⟨ad2, ee, y0, y1, y2⟩ := at74 hC 1 (by omega)
          cases ee
          have hi1 : (1 : Int) < ((ofL cp (j : Int)).length : Int) := by omega
          generalize g74 (ofL cp (j : Int)) 1 = y at y0 y1 y2 HP HF
          simp [Addr.add] at y0 y1 y2
          refine region_b [(0, 0), (1, 0), (2, 0), (3, 0), (4, 0), (5, 1), (6, 0), (7, 0)] (by kernel_rfl) rfl (by kernel_rfl) (by intro _ _ d _ _ h; cases d <;> exact h) ?_
          repeat (first | (refine seq_off (a' := ?_) rfl rfl ?_ ?_; rotate_left; (· simp only [List.getElem_toArray, List.getElem_cons_succ, List.getElem_cons_zero, Act.put, List.setIfInBounds_toArray, List.set_cons_zero, List.set_cons_succ, i64_w, i32_w]; rfl)) | (refine seq_read (v := ?_) (a' := ?_) rfl rfl (fun w' hS => ?_) ?_ ?_; rotate_left 2; (· have b1 := (B1.below hS).cl; have b3 := (B3.below hS).cl; have p0 := cell_b hS y0; have p1 := cell_b hS y1; have p2 := cell_b hS y2; go_simp; try with_reducible rfl); (· simp only [List.getElem_toArray, List.getElem_cons_succ, List.getElem_cons_zero, Act.put, List.setIfInBounds_toArray, List.set_cons_zero, List.set_cons_succ, i64_w, i32_w]; rfl)))
          refine seq_do rfl (fun hS => ?_)
          simp only [List.getElem_toArray, List.getElem_cons_succ, List.getElem_cons_zero]
          go_wp2_with (go_at_call 53; refine (minuteT_calls e0 e1 e2 e3 y _ HS.out HP.out.1 HP.out.2.1 HP.out.2.2.1 HP.out.2.2.2).mono ?_; rintro e w3 ⟨rfl, hb⟩; have hS3 := below_step hS hb)
          refine ⟨hS3, seq_at hS3 fun w4 hS4 => ?_⟩
          clear hS hS3 hb
          repeat (first | (refine seq_off (a' := ?_) rfl rfl ?_ ?_; rotate_left; (· simp only [List.getElem_toArray, List.getElem_cons_succ, List.getElem_cons_zero, Act.put, List.setIfInBounds_toArray, List.set_cons_zero, List.set_cons_succ, i64_w, i32_w]; rfl)) | (refine seq_read (v := ?_) (a' := ?_) rfl rfl (fun w' hS => ?_) ?_ ?_; rotate_left 2; (· have b1 := (B1.below hS).cl; have b3 := (B3.below hS).cl; have p0 := cell_b hS y0; have p1 := cell_b hS y1; have p2 := cell_b hS y2; go_simp; try with_reducible rfl); (· simp only [List.getElem_toArray, List.getElem_cons_succ, List.getElem_cons_zero, Act.put, List.setIfInBounds_toArray, List.set_cons_zero, List.set_cons_succ, i64_w, i32_w]; rfl)))
          refine seq_done ?_
          replace B1 := B1.below hS4
          replace HB := Aside0.mk (below_step HB.out hS4)
          clear b3 B3 y0 y1 y2 hC x0 x1
          go_wp2
          all_goals
            go_roundg k1
            case measure => omega
            case rel => exact ⟨j + 1, by rw [HF.out, if_pos ⟨ht, hl2⟩]; unfold mx; first | rw [if_pos (by assumption)] | rw [if_neg (by omega)], by go_num, ⟨by have := HK.out; omega⟩, B1, HB⟩
        · have q2 : (((ofL cp (j : Int)).length : Int) == 2) = false := by simp; omega
          go_wp2_with (go_at_call 52; refine (of_calls hr gr (j : Int) _ (HI.out.below (below_alloc HB.out _)) (by have := HO.out.n4; omega)).mono ?_; rintro e w2 ⟨Ao, co, rfl, hlen, hC, hb⟩; obtain ⟨B3, HB3⟩ := one_new hb; clear hb; replace B1 := B1.below HB3.out; replace HB := Aside0.mk (below_step HB.out HB3.out); clear b1 bb hA; have b3 := B3.cl)
          go_roundg k1
          case measure => omega
          case rel => exact ⟨j + 1, by rw [HF.out, if_neg (by omega)], by go_num, ⟨by have := HK.out; omega⟩, B1, HB⟩
      · have q1 : (x.f0 == tb) = false := by simp [ht]
        go_wp2_with (go_at_call 52; refine (of_calls hr gr (j : Int) _ (HI.out.below (below_alloc HB.out _)) (by have := HO.out.n4; omega)).mono ?_; rintro e w2 ⟨Ao, co, rfl, hlen, hC, hb⟩; obtain ⟨B3, HB3⟩ := one_new hb; clear hb; replace B1 := B1.below HB3.out; replace HB := Aside0.mk (below_step HB.out HB3.out); clear b1 bb hA; have b3 := B3.cl)
        go_roundg k1
        case measure => omega
        case rel => exact ⟨j + 1, by rw [HF.out, if_neg (by omega)], by go_num, ⟨by have := HK.out; omega⟩, B1, HB⟩
    · have hj : j = ti.length := by have := HK.out; omega
      subst hj
      go_wp2
      go_ret
      exact ⟨rfl, HB.out⟩
end

end Go.Proofs.Ytgdbnioodimlfaa.Wk
