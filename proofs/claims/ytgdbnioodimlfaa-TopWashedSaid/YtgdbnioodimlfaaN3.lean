/- The contracts of within, has, are and order of package tub, where they hold. Conditions stand in each theorem. -/
import Derived.Test.YtgdbnioodimlfaaSeq
import Derived.Test.YtgdbnioodimlfaaN2
namespace Go.Proofs.Ytgdbnioodimlfaa.Wk
open Go.RowKit Go.Proofs.YtgdbnioodimlfaaW.PrintWords Go.Proofs.YtgdbnioodimlfaaW.PrintLast Go.Proofs.YtgdbnioodimlfaaW.PrintMore Go.Proofs.Ytgdbnioodimlfaa.PTopWashed Go.Proofs.Ytgdbnioodimlfaa.Sq
attribute [local go_sem] max2_int min2_int max_two min_two max_three min_three max_four min_four
set_option linter.unusedVariables false
set_option linter.unusedSimpArgs false

theorem within46_calls (a b c : Int) (w : World) (h1 : b ≤ a) (h2 : a ≤ c) : Calls Try.prog 46 #[.int .i64 a, .int .i64 b, .int .i64 c] w fun e w' => e = .returned (.bool true) ∧ w = w' := by
  have d1 : decide (b ≤ a) = true := decide_eq_true h1
  have d2 : decide (a ≤ c) = true := decide_eq_true h2
  go_enter Try.func46, Try.ntmps46
  go_wp2
  go_ret
  exact ⟨rfl, rfl⟩
theorem has_calls (lo hi n : Int) (w : World) (h1 : lo ≤ n) (h2 : n ≤ hi) : Calls Try.prog 45 #[.agg #[.int .i64 lo, .int .i64 hi], .int .i64 n] w fun e w' => e = .returned (.bool true) ∧ Below w.heap.size w w' := by
  go_enter Try.func45, Try.ntmps45
  go_wp2_with (go_at_call 46; refine (within46_calls n lo hi _ h1 h2).mono ?_; rintro e w2 ⟨rfl, rfl⟩)
  go_ret
  exact ⟨rfl, below_alloc (Below.refl _ _) _⟩

set_option maxHeartbeats 1000000 in
theorem are_calls (l : List Int) (A1 : Option Addr) (c1 : Nat) (rs : List S53) (A2 : Option Addr) (c2 : Nat) (w : World) (h1 : Kd.C (Kd.int .i64) w A1 l.length l) (h2 : Kd.C k53 w A2 rs.length rs) (hl : l.length = rs.length) (h63 : rs.length ≤ 1000)
    (hin : ∀ j, j < rs.length → (g53 rs j).f0 ≤ gi l j ∧ gi l j ≤ (g53 rs j).f1) :
    Calls Try.prog 26 #[.slice A1 l.length c1, .slice A2 rs.length c2] w fun e w' => e = .returned (.bool true) ∧ Below w.heap.size w w' := by
  have H1 := Aside0.mk h1
  have H2 := Aside0.mk h2
  have HL := Aside0.mk hl
  have HI := Aside0.mk hin
  have q : (((l.length : Nat) : Int) != (rs.length : Int)) = false := by simp; omega
  clear h1 h2 hin hl
  go_enter Try.func26, Try.ntmps26
  go_wp2
  go_loopg [14] rs.length (fun kq v14 w' => ∃ j : Nat, v14 = .int .i64 (j : Int) ∧ Aside0 (j + kq = rs.length) ∧ Aside0 (Below w.heap.size w w'))
  case atStart => exact ⟨0, rfl, ⟨by omega⟩, ⟨Below.refl _ _⟩⟩
  case round =>
    obtain ⟨j, rfl, HK, HB⟩ := hrel
    by_cases hlt : j < rs.length
    · obtain ⟨k1, rfl⟩ : ∃ k1, gk = k1 + 1 := ⟨gk - 1, by have := HK.out; omega⟩
      have hll := HL.out
      obtain ⟨ad, ee, x0, x1⟩ := at53 (Kd.C_below H2.out HB.out) j hlt
      cases ee
      obtain ⟨ad1, ee, y0⟩ := at_nat (Kd.C_below H1.out HB.out) j (by omega)
      cases ee
      have HN := Aside0.mk (HI.out j hlt)
      have hlt1 : j < l.length := by omega
      have hlt2 : (j : Int) < l.length := by omega
      generalize g53 rs j = x at x0 x1 HN
      generalize gi l j = y at y0 HN
      clear hll
      go_wp2
      refine wp_new1 fun w1 B1 HB1 HZ1 => ?_
      replace y0 := cell_b HB1.out y0
      replace HB := Aside0.mk (below_step HB.out HB1.out)
      clear x0 x1 HB1 HZ1
      refine region_b [(0, 0), (1, 0), (2, 0), (3, 0), (4, 0), (5, 1), (6, 0)] (by kernel_rfl) rfl (by kernel_rfl) (by intro _ _ d _ _ h; cases d <;> exact h) ?_
      repeat (first | (refine seq_off (a' := ?_) rfl rfl ?_ ?_; rotate_left; (· simp only [List.getElem_toArray, List.getElem_cons_succ, List.getElem_cons_zero, Act.put, List.setIfInBounds_toArray, List.set_cons_zero, List.set_cons_succ, i64_w, i32_w]; rfl)) | (refine seq_read (v := ?_) (a' := ?_) rfl rfl (fun w' hS => ?_) ?_ ?_; rotate_left 2; (· have b1 := (B1.below hS).cl; have q0 := cell_b hS y0; go_simp; try with_reducible rfl); (· simp only [List.getElem_toArray, List.getElem_cons_succ, List.getElem_cons_zero, Act.put, List.setIfInBounds_toArray, List.set_cons_zero, List.set_cons_succ, i64_w, i32_w]; rfl)))
      refine seq_do rfl (fun hS => ?_)
      simp only [List.getElem_toArray, List.getElem_cons_succ, List.getElem_cons_zero]
      go_wp2_with (go_at_call 45; refine (has_calls x.f0 x.f1 y _ HN.out.1 HN.out.2).mono ?_; rintro e w3 ⟨rfl, hb⟩; have hS3 := below_step hS hb)
      refine ⟨hS3, seq_at hS3 fun w4 hS4 => ?_⟩
      clear hS hS3 hb
      repeat (first | (refine seq_off (a' := ?_) rfl rfl ?_ ?_; rotate_left; (· simp only [List.getElem_toArray, List.getElem_cons_succ, List.getElem_cons_zero, Act.put, List.setIfInBounds_toArray, List.set_cons_zero, List.set_cons_succ, i64_w, i32_w]; rfl)) | (refine seq_read (v := ?_) (a' := ?_) rfl rfl (fun w' hS => ?_) ?_ ?_; rotate_left 2; (· have b1 := (B1.below hS).cl; have q0 := cell_b hS y0; go_simp; try with_reducible rfl); (· simp only [List.getElem_toArray, List.getElem_cons_succ, List.getElem_cons_zero, Act.put, List.setIfInBounds_toArray, List.set_cons_zero, List.set_cons_succ, i64_w, i32_w]; rfl)))
      refine seq_done ?_
      replace HB := Aside0.mk (below_step HB.out hS4)
      clear y0
      go_wp2
      go_roundg k1
      case measure => omega
      case rel => exact ⟨j + 1, by go_num, ⟨by have := HK.out; omega⟩, HB⟩
    · go_wp2
      go_ret
      exact ⟨rfl, HB.out⟩

theorem contEmpty_calls (ad : Addr) (c : Nat) (i : Int) (w : World) : Calls Try.prog 47 #[.slice (some ad) 0 c, .int .i64 i] w fun e w' => e = .returned (.bool false) ∧ Below w.heap.size w w' := by
  refine (slices_Contains_int_int.calls 1 (some ad) c [] i false w ⟨rfl, by simp, fun h0 => absurd h0 (by simp)⟩ (Nat.zero_le _) (by unfold slices_Contains_int_int.f slices_Index_int_int.f; simp [slices_Index_int_int.l0])).mono ?_
  rintro e w' ⟨rfl, hd⟩
  exact ⟨rfl, hd.below⟩
section
variable {A2 : Option Addr} {c2 : Nat} {A3 : Option Addr} {c3 : Nat} {A4 : Option Addr} {c4 : Nat} {cl : List S65} {ti : List S73} {cp : List S74} {A5 : Option Addr} {c5 : Nat} {qu : List S53}
set_option maxHeartbeats 1000000 in
theorem order_calls (hr gr tubs op clo : Int) (A6 : Option Addr) (c6 : Nat) (w : World) (h : Kd.C (Kd.int .i64) w A6 1 [0]) (hq : 1 ≤ qu.length) (hq5 : qu.length ≤ 1000) (hc6 : 1 ≤ c6) :
    Calls Try.prog 27 #[.agg #[.int .i64 hr, .int .i64 gr, .slice A2 cl.length c2, .slice A3 ti.length c3, .slice A4 cp.length c4, .int .i64 tubs, .int .i64 op, .int .i64 clo, .slice A5 qu.length c5], .slice A6 1 c6] w fun e w' => e = .returned (.bool true) ∧ Below w.heap.size w w' := by
  obtain ⟨ad, ee, o0⟩ := at_nat h 0 (by omega)
  cases ee
  rw [add_zero] at o0
  have o0' : w.cell? ad = some (.int .i64 0) := o0
  have HO := Aside0.mk o0'
  have q1 : wrap64 ((qu.length : Int) - 1) = (qu.length : Int) - 1 := w64 (by omega) (by omega)
  have HQ := Aside0.mk (show (0 : Int) ≤ (qu.length : Int) - 1 from by omega)
  clear h o0 o0'
  go_enter Try.func27, Try.ntmps27
  go_wp2
  refine wp_new1 fun w1 B1 HB HZ => ?_
  go_loopg [9] 1 (fun kq v9 w' => ∃ j : Nat, v9 = .int .i64 (j : Int) ∧ Aside0 (j + kq = 1) ∧ At w' w.heap.size #[.int .i64 hr, .int .i64 gr, .slice A2 cl.length c2, .slice A3 ti.length c3, .slice A4 cp.length c4, .int .i64 tubs, .int .i64 op, .int .i64 clo, .slice A5 qu.length c5] 48 ∧ Aside0 (Below w.heap.size w w'))
  case atStart => exact ⟨0, rfl, ⟨rfl⟩, B1, HB⟩
  case round =>
    clear B1 HB
    obtain ⟨j, rfl, HK, B1, HB⟩ := hrel
    match gk, HK with
    | 1, HK =>
      obtain rfl : j = 0 := by have := HK.out; omega
      have o0 := cell_b HB.out HO.out
      have b1 := B1.cl
      go_wp2_with (first
        | (go_at_call 46; refine (within46_calls 0 0 ((qu.length : Int) - 1) _ (by omega) HQ.out).mono ?_; rintro e w2 ⟨rfl, rfl⟩)
        | (go_at_call 47; refine (contEmpty_calls _ _ _ _).mono ?_; rintro e w2 ⟨rfl, hb⟩; replace B1 := B1.below hb; replace HB := Aside0.mk (below_step HB.out hb)))
      go_roundg 0
      case measure => omega
      case rel => exact ⟨1, rfl, ⟨rfl⟩, B1, HB⟩
    | 0, HK =>
      obtain rfl : j = 1 := by have := HK.out; omega
      go_wp2
      go_ret
      exact ⟨rfl, HB.out⟩
end

end Go.Proofs.Ytgdbnioodimlfaa.Wk
