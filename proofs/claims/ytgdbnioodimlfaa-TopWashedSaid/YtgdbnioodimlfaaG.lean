/- The contract of bounds, for a house with one truth. Conditions stand in each theorem. -/
import Derived.Test.YtgdbnioodimlfaaSeq
import Derived.Test.YtgdbnioodimlfaaF
namespace Go.Proofs.Ytgdbnioodimlfaa.Wk
open Go.RowKit Go.Proofs.YtgdbnioodimlfaaW.PrintWords Go.Proofs.YtgdbnioodimlfaaW.PrintLast Go.Proofs.YtgdbnioodimlfaaW.PrintMore Go.Proofs.Ytgdbnioodimlfaa.PTopWashed Go.Proofs.Ytgdbnioodimlfaa.Sq
attribute [local go_sem] max2_int min2_int max_two min_two max_three min_three max_four min_four
set_option linter.unusedVariables false
set_option linter.unusedSimpArgs false

section
variable {A2 : Option Addr} {c2 : Nat} {A3 : Option Addr} {c3 : Nat} {A4 : Option Addr} {c4 : Nat} {cl : List S65} {ti : List S73} {cp : List S74}
set_option maxHeartbeats 1000000 in
theorem bounds_calls (F b : Nat) (about n : Int) (hc : List Value) (hr gr e0 e1 e2 e3 : Int) (w : World) (hhc : hc = [.int .i64 hr, .int .i64 gr, .slice A2 cl.length c2, .slice A3 ti.length c3, .slice A4 cp.length c4]) (W : WorkIn w b hc e0 e1 e2 e3)
    (HF : ∀ W', Below w.heap.size w W' → Calls Try.prog F #[.pointer (some ⟨b, 0, none⟩), .agg #[.int .i64 e0, .int .i64 e1, .int .i64 e2, .int .i64 e3], .int .i64 about] W' fun e w' => e = .returned (.int .i64 n) ∧ Below W'.heap.size W' w')
    (hfn : ∀ args w, (callFunc F args).run Try.prog w = .ok (.enter F args) w) :
    Calls Try.prog 34 #[.agg #[.func (.func F) #[] #[]], .pointer (some ⟨b, 0, none⟩), .int .i64 about] w fun e w' => e = .returned (.agg #[.int .i64 n, .int .i64 n]) ∧ Below w.heap.size w w' := by
  subst hhc
  obtain ⟨tb, cap, mv, cs, hA, hT, t0, t1, t2, t3⟩ := W.out
  simp only [List.cons_append, List.nil_append] at hA
  have HFF := Aside0.mk HF
  have HA := Aside0.mk hA
  have HT := Aside0.mk hT
  clear HF W
  have hlt := hA.lt
  have hlt1 := hT.lt
  have hi0 : (0 : Int) < 1 := by omega
  go_enter Try.func34, Try.ntmps34
  go_wp2
  refine wp_new2 fun w1 B1 B2 HB HZ => ?_
  refine region_b [(0, 0), (1, 0), (2, 0), (3, 0), (4, 0), (5, 0), (6, 0), (7, 0), (8, 0), (9, 0), (10, 1), (11, 0)] (by kernel_rfl) rfl (by kernel_rfl) (by intro _ _ d _ _ h; cases d <;> exact h) ?_
  repeat (first | (refine seq_off (a' := ?_) rfl rfl ?_ ?_; rotate_left; (· simp only [List.getElem_toArray, List.getElem_cons_succ, List.getElem_cons_zero, Act.put, List.setIfInBounds_toArray, List.set_cons_zero, List.set_cons_succ, i64_w, i32_w]; rfl)) | (refine seq_read (v := ?_) (a' := ?_) rfl rfl (fun w' hS => ?_) ?_ ?_; rotate_left 2; (· have b1 := (B1.below hS).cl; have b2 := (B2.below hS).cl; have bb := (HA.out.below (below_then HB.out HB.out.size hS)).cl; have bt := (HT.out.below (below_then HB.out HB.out.size hS)).cl; have c0 := (bt 0).trans t0; have c1 := (bt 1).trans t1; have c2_ := (bt 2).trans t2; have c3_ := (bt 3).trans t3; go_simp; try with_reducible rfl); (· simp only [List.getElem_toArray, List.getElem_cons_succ, List.getElem_cons_zero, Act.put, List.setIfInBounds_toArray, List.set_cons_zero, List.set_cons_succ, i64_w, i32_w]; rfl)))
  refine seq_do rfl (fun hS => ?_)
  simp only [List.getElem_toArray, List.getElem_cons_succ, List.getElem_cons_zero]
  go_wp2_with ((with_reducible refine (HFF.out _ ?hb0).mono ?_); (case hb0 => exact below_then HB.out HB.out.size hS); rintro e w3 ⟨rfl, hb⟩; have hS3 := below_step hS hb)
  refine ⟨hS3, seq_at hS3 fun w4 hS4 => ?_⟩
  clear hS hS3 hb
  repeat (first | (refine seq_off (a' := ?_) rfl rfl ?_ ?_; rotate_left; (· simp only [List.getElem_toArray, List.getElem_cons_succ, List.getElem_cons_zero, Act.put, List.setIfInBounds_toArray, List.set_cons_zero, List.set_cons_succ, i64_w, i32_w]; rfl)) | (refine seq_read (v := ?_) (a' := ?_) rfl rfl (fun w' hS => ?_) ?_ ?_; rotate_left 2; (· have b1 := (B1.below hS).cl; have b2 := (B2.below hS).cl; have bb := (HA.out.below (below_then HB.out HB.out.size hS)).cl; have bt := (HT.out.below (below_then HB.out HB.out.size hS)).cl; have c0 := (bt 0).trans t0; have c1 := (bt 1).trans t1; have c2_ := (bt 2).trans t2; have c3_ := (bt 3).trans t3; go_simp; try with_reducible rfl); (· simp only [List.getElem_toArray, List.getElem_cons_succ, List.getElem_cons_zero, Act.put, List.setIfInBounds_toArray, List.set_cons_zero, List.set_cons_succ, i64_w, i32_w]; rfl)))
  refine seq_done ?_
  replace B1 := B1.below hS4
  replace B2 := B2.below hS4
  replace HB := Aside0.mk (below_then HB.out HB.out.size hS4)
  have hz4 := hS4.size
  clear hS4 hA hT
  have bb := (HA.out.below HB.out).cl
  have hltb := (HA.out.below HB.out).lt
  go_wp2
  have HZ4 := Aside0.mk (show w.heap.size + 2 ≤ w4.heap.size from by have := HZ.out; omega)
  replace B1 := B1.alloc (.cells #[.int .i64 n, .int .i64 n] 65)
  replace B2 := B2.alloc (.cells #[.int .i64 n, .int .i64 n] 65)
  have B3 := At.new w4 #[.int .i64 n, .int .i64 n] 65
  replace HB := Aside0.mk (below_alloc HB.out (.cells #[.int .i64 n, .int .i64 n] 65))
  generalize hw5 : w4.alloc (.cells #[.int .i64 n, .int .i64 n] 65) = w5 at B1 B2 B3 HB ⊢
  clear hw5 bb hz4 hltb
  go_loopg [30] 1 (fun kq v30 w' => ∃ j : Nat, v30 = .int .i64 (j : Int) ∧ Aside0 (j + kq = 1) ∧ At w' w.heap.size #[.func (.func F) #[] #[]] 97 ∧ At w' (w.heap.size + 1) #[.int .i64 0, .int .i64 0] 65 ∧ At w' w4.heap.size #[.int .i64 n, .int .i64 n] 65 ∧ Aside0 (Below w.heap.size w w'))
  case atStart => exact ⟨0, rfl, ⟨rfl⟩, B1, B2, B3, HB⟩
  case round =>
    clear B1 B2 B3 HB
    obtain ⟨j, rfl, HK, B1, B2, B3, HB⟩ := hrel
    match gk, HK with
    | 1, HK =>
      obtain rfl : j = 0 := by have := HK.out; omega
      have hA := HA.out.below HB.out
      have hlt3 := hA.lt
      have hT := HT.out.below HB.out
      have bt := hT.cl
      have c0 := (bt 0).trans t0
      have c1 := (bt 1).trans t1
      have c2_ := (bt 2).trans t2
      have c3_ := (bt 3).trans t3
      clear bt
      go_wp2
      clear c0 c1 c2_ c3_
      refine wp_new1 fun w6 B6 HB6 HZ6 => ?_
      replace B1 := B1.below HB6.out
      replace B2 := B2.below HB6.out
      replace B3 := B3.below HB6.out
      replace HB := Aside0.mk (below_step HB.out HB6.out)
      refine region_b [(0, 0), (1, 0), (2, 0), (3, 0), (4, 0), (5, 0), (6, 1), (7, 1), (8, 2)] (by kernel_rfl) rfl (by kernel_rfl) (by intro _ _ d _ _ h; cases d <;> exact h) ?_
      repeat (first | (refine seq_off (a' := ?_) rfl rfl ?_ ?_; rotate_left; (· simp only [List.getElem_toArray, List.getElem_cons_succ, List.getElem_cons_zero, Act.put, List.setIfInBounds_toArray, List.set_cons_zero, List.set_cons_succ, i64_w, i32_w]; rfl)) | (refine seq_read (v := ?_) (a' := ?_) rfl rfl (fun w' hS => ?_) ?_ ?_; rotate_left 2; (· have b1 := (B1.below hS).cl; have b2 := (B2.below hS).cl; have b3 := (B3.below hS).cl; have b6 := (B6.below hS).cl; go_simp; try with_reducible rfl); (· simp only [List.getElem_toArray, List.getElem_cons_succ, List.getElem_cons_zero, Act.put, List.setIfInBounds_toArray, List.set_cons_zero, List.set_cons_succ, i64_w, i32_w]; rfl)))
      refine seq_do rfl (fun hS => ?_)
      simp only [List.getElem_toArray, List.getElem_cons_succ, List.getElem_cons_zero]
      go_wp2_with ((with_reducible refine (HFF.out _ ?hb0).mono ?_); (case hb0 => exact below_then HB.out HB.out.size hS); rintro e w7 ⟨rfl, hb⟩; have hS7 := below_step hS hb)
      refine ⟨hS7, seq_at hS7 fun w8 hS8 => ?_⟩
      clear hS hS7 hb
      refine seq_do rfl (fun hS => ?_)
      simp only [List.getElem_toArray, List.getElem_cons_succ, List.getElem_cons_zero]
      go_wp2_with (go_at_call 54; refine (wider_calls n _).mono ?_; rintro e w7 ⟨rfl, hb⟩; have hS7 := below_step hS8 hb)
      refine ⟨hS7, seq_at hS7 fun w9 hS9 => ?_⟩
      refine seq_last rfl ?_
      simp only [List.getElem_toArray, List.getElem_cons_succ, List.getElem_cons_zero]
      replace B1 := B1.below hS9
      replace B2 := B2.below hS9
      replace B3 := B3.below hS9
      replace HB := Aside0.mk (below_then HB.out HB.out.size hS9)
      clear hS hS7 hS8 hS9 hb hT hA B6 HB6 HZ6
      have b3 := B3.cl
      have f3 := B3.fr
      go_wp2
      refine seq_done ?_
      have hz := HZ4.out
      replace B1 := (B1.far (p := ⟨w4.heap.size, 0, none⟩) (by show w.heap.size ≠ w4.heap.size; omega) (.int .i64 n)).far (p := ⟨w4.heap.size, 1, none⟩) (by show w.heap.size ≠ w4.heap.size; omega) (.int .i64 n)
      replace B2 := (B2.far (p := ⟨w4.heap.size, 0, none⟩) (by show w.heap.size + 1 ≠ w4.heap.size; omega) (.int .i64 n)).far (p := ⟨w4.heap.size, 1, none⟩) (by show w.heap.size + 1 ≠ w4.heap.size; omega) (.int .i64 n)
      replace B3 := (B3.set 0 (.int .i64 n)).set 1 (.int .i64 n)
      replace HB := Aside0.mk ((HB.out.setCell (p := ⟨w4.heap.size, 0, none⟩) (by show w.heap.size ≤ w4.heap.size; omega) (.int .i64 n)).setCell (p := ⟨w4.heap.size, 1, none⟩) (by show w.heap.size ≤ w4.heap.size; omega) (.int .i64 n))
      clear b3 f3 hz
      generalize (w9.setCell ⟨w4.heap.size, 0, none⟩ (.int .i64 n)).setCell ⟨w4.heap.size, 1, none⟩ (.int .i64 n) = w10 at B1 B2 B3 HB ⊢
      go_wp2
      go_roundg 0
      case measure => omega
      case rel => exact ⟨1, by rfl, ⟨rfl⟩, B1, B2, by simpa using B3, HB⟩
    | 0, HK =>
      obtain rfl : j = 1 := by have := HK.out; omega
      have b3 := B3.cl
      have b2 := B2.cl
      have f2 := B2.fr
      go_wp2
      have B4 := (B2.set 0 (.int .i64 n)).set 1 (.int .i64 n)
      refine bodyPost_ret (results_cell_row rfl _ _ (w.heap.size + 1) 65 #[.int .i64 n, .int .i64 n] (0, 0) _ rfl (by simpa using B4.out) Try.underlying65 rfl (by kernel_rfl)) rfl ?_
      exact ⟨rfl, (HB.out.setCell (p := ⟨w.heap.size + 1, 0, none⟩) (by show w.heap.size ≤ w.heap.size + 1; omega) _).setCell (p := ⟨w.heap.size + 1, 1, none⟩) (by show w.heap.size ≤ w.heap.size + 1; omega) _⟩
end

end Go.Proofs.Ytgdbnioodimlfaa.Wk
