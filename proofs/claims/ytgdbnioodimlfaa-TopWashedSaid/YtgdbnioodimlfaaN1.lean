/- The contracts of freed, and of first where the first tub is free first. Conditions stand in each theorem. -/
import Derived.Test.YtgdbnioodimlfaaSeq
import Derived.Test.YtgdbnioodimlfaaL
import Derived.Test.YtgdbnioodimlfaaSeq2
import Derived.Laws.CopyOwn
namespace Go.Proofs.Ytgdbnioodimlfaa.Wk
open Go.RowKit Go.Proofs.YtgdbnioodimlfaaW.PrintWords Go.Proofs.YtgdbnioodimlfaaW.PrintLast Go.Proofs.YtgdbnioodimlfaaW.PrintMore Go.Proofs.Ytgdbnioodimlfaa.PTopWashed Go.Proofs.Ytgdbnioodimlfaa.Sq
attribute [local go_sem] max2_int min2_int max_two min_two max_three min_three max_four min_four
set_option linter.unusedVariables false
set_option linter.unusedSimpArgs false

def f5 (xs : List Int) (i : Nat) : Int := xs.getD i 1099511627776
theorem f5_splice (xs : List Int) (h : xs.length ≤ 5) : splice (List.replicate 5 (Value.int .i64 1099511627776)) 0 (xs.map (Value.int .i64)) = [.int .i64 (f5 xs 0), .int .i64 (f5 xs 1), .int .i64 (f5 xs 2), .int .i64 (f5 xs 3), .int .i64 (f5 xs 4)] := by
  match xs, h with
  | [], _ => rfl
  | [_], _ => rfl
  | [_, _], _ => rfl
  | [_, _, _], _ => rfl
  | [_, _, _, _], _ => rfl
  | [_, _, _, _, _], _ => rfl
  | _ :: _ :: _ :: _ :: _ :: _ :: _, h => simp at h
theorem read_ints {w : World} {A : Option Addr} {xs : List Int} (h : Kd.C (Kd.int .i64) w A xs.length xs) (h0 : 0 < xs.length) : ∃ ad, A = some ad ∧ ∀ (j : Nat) (v : Value), (xs.map (Value.int .i64))[j]? = some v → w.cell? (ad.add j) = some v := by
  obtain ⟨ad, ee, _⟩ := at_nat h 0 h0
  refine ⟨ad, ee, fun j v hv => ?_⟩
  obtain ⟨hj, e⟩ := List.getElem?_eq_some_iff.1 hv
  have hj' : j < xs.length := by simpa using hj
  obtain ⟨ad2, ee2, hc⟩ := at_nat h j hj'
  rw [ee] at ee2
  cases ee2
  rw [hc, ← e]
  simp [gi, hj']

set_option maxHeartbeats 1000000 in
theorem freed_calls (xs : List Int) (A : Option Addr) (c : Nat) (w : World) (h : Kd.C (Kd.int .i64) w A xs.length xs) (h1 : 1 ≤ xs.length) (h5 : xs.length ≤ 5) :
    Calls Try.prog 28 #[.slice A xs.length c] w fun e w' => e = .returned (.agg #[.int .i64 (f5 xs 0), .int .i64 (f5 xs 1), .int .i64 (f5 xs 2), .int .i64 (f5 xs 3), .int .i64 (f5 xs 4)]) ∧ Below w.heap.size w w' := by
  have HX := Aside0.mk h
  clear h
  go_enter Try.func28, Try.ntmps28
  go_wp2
  refine wp_new1 fun w1 B1 HB HZ => ?_
  go_loopg [4] 5 (fun kq v4 w' => ∃ (j : Nat) (cs : Array Value), v4 = .int .i64 (j : Int) ∧ Aside0 (j + kq = 5) ∧ At w' w.heap.size cs 87 ∧ Aside0 (cs.size = 5 ∧ ∀ i, i < j → cs[i]? = some (.int .i64 1099511627776)) ∧ Aside0 (Below w.heap.size w w'))
  case atStart => exact ⟨0, _, rfl, ⟨rfl⟩, B1, ⟨rfl, fun i hi => by omega⟩, HB⟩
  case round =>
    clear B1 HB
    obtain ⟨j, cs, rfl, HK, B1, HC, HB⟩ := hrel
    by_cases hlt : j < 5
    · obtain ⟨k1, rfl⟩ : ∃ k1, gk = k1 + 1 := ⟨gk - 1, by have := HK.out; omega⟩
      have hj5 : (j : Int) < 5 := by omega
      have hcj : wr.cell? ⟨w.heap.size, j, none⟩ = some (cs[j]'(by have := HC.out.1; omega)) := (B1.cl j).trans (Array.getElem?_eq_getElem _)
      have hfj := B1.fr j
      go_wp2
      go_roundg k1
      case measure => omega
      case rel =>
        refine ⟨j + 1, _, by go_num, ⟨by have := HK.out; omega⟩, B1.set j (.int .i64 1099511627776), ⟨by simpa using HC.out.1, fun i hi => ?_⟩, ⟨HB.out.setCell (p := ⟨w.heap.size, j, none⟩) (Nat.le_refl _) _⟩⟩
        by_cases e : i = j
        · subst e
          rw [Array.getElem?_setIfInBounds_self_of_lt (by have := HC.out.1; omega)]
        · rw [Array.getElem?_setIfInBounds_ne (Ne.symm e)]
          exact HC.out.2 i (by omega)
    · have hjj : j = 5 := by have := HK.out; omega
      subst hjj
      have hcs : cs = (List.replicate 5 (Value.int .i64 1099511627776)).toArray := by
        apply Array.ext
        · rw [HC.out.1]; rfl
        · intro i hi1 hi2
          have h := HC.out.2 i (by have := HC.out.1; omega)
          rw [Array.getElem?_eq_getElem hi1] at h
          have h2 := Option.some.inj h
          rw [h2, List.getElem_toArray, List.getElem_replicate]
      subst hcs
      obtain ⟨ad, ee, hrd⟩ := read_ints (Kd.C_below HX.out HB.out) (by omega)
      subst ee
      have HR := Aside0.mk hrd
      clear hrd HC
      go_wp2_with (refine wpList_copy_splice rfl (.tmp 10) (.tmp 11) 35 35 rfl 3 Try.underlying35 (by kernel_rfl) (some ⟨w.heap.size, 0, none⟩) (some ad) 5 5 xs.length c rfl rfl w.heap.size 0 (List.replicate 5 (.int .i64 1099511627776)) 87 B1.out (xs.map (.int .i64)) (by simp [Nat.min_eq_left h5]) (fun _ => ⟨rfl, ad, rfl, HR.out⟩) (by simpa using h5) (by simp [Value.oneCell']) w.heap.size w HB.out (Nat.le_refl _) ?_; intro w5 hg5 hb5; have B5 : At w5 w.heap.size #[.int .i64 (f5 xs 0), .int .i64 (f5 xs 1), .int .i64 (f5 xs 2), .int .i64 (f5 xs 3), .int .i64 (f5 xs 4)] 87 := ⟨by have := hg5; unfold Hid at this; rw [f5_splice xs h5] at this; exact this⟩; have HB5 := Aside0.mk hb5; clear hg5 hb5; have b5 := B5.cl; have f5_ := B5.fr)
      have B6 := ((((B5.set 0 (.int .i64 (f5 xs 0))).set 1 (.int .i64 (f5 xs 1))).set 2 (.int .i64 (f5 xs 2))).set 3 (.int .i64 (f5 xs 3))).set 4 (.int .i64 (f5 xs 4))
      refine bodyPost_ret (results_cell_row rfl _ _ w.heap.size 87 #[.int .i64 (f5 xs 0), .int .i64 (f5 xs 1), .int .i64 (f5 xs 2), .int .i64 (f5 xs 3), .int .i64 (f5 xs 4)] (0, 0) _ rfl (by simpa using B6.out) Try.underlying87 rfl (by kernel_rfl)) rfl ?_
      exact ⟨rfl, ((((HB5.out.setCell (p := ⟨w.heap.size, 0, none⟩) (Nat.le_refl _) _).setCell (p := ⟨w.heap.size, 1, none⟩) (Nat.le_refl _) _).setCell (p := ⟨w.heap.size, 2, none⟩) (Nat.le_refl _) _).setCell (p := ⟨w.heap.size, 3, none⟩) (Nat.le_refl _) _).setCell (p := ⟨w.heap.size, 4, none⟩) (Nat.le_refl _) _⟩

theorem minL5 (x0 x1 x2 x3 x4 : Int) (h1 : x0 ≤ x1) (h2 : x0 ≤ x2) (h3 : x0 ≤ x3) (h4 : x0 ≤ x4) : minL [x0, x1, x2, x3, x4] = x0 := by
  simp only [minL, List.foldl_cons, List.foldl_nil, mn]
  rw [if_neg (by omega), if_neg (by omega), if_neg (by omega), if_neg (by omega)]

set_option maxHeartbeats 1000000 in
theorem first_calls (x0 x1 x2 x3 x4 : Int) (w : World) (h1 : x0 ≤ x1) (h2 : x0 ≤ x2) (h3 : x0 ≤ x3) (h4 : x0 ≤ x4) :
    Calls Try.prog 48 #[.agg #[.int .i64 x0, .int .i64 x1, .int .i64 x2, .int .i64 x3, .int .i64 x4]] w fun e w' => e = .returned (.int .i64 0) ∧ Below w.heap.size w w' := by
  have HM := Aside0.mk (minL5 x0 x1 x2 x3 x4 h1 h2 h3 h4)
  have HI := Aside0.mk (show slices_Index_int_int.f 10 [x0, x1, x2, x3, x4] x0 = some 0 from by
    unfold slices_Index_int_int.f slices_Index_int_int.l0
    rw [if_pos (by simp), if_pos (by omega), if_pos (by simp), if_pos (show x0 = rd [x0, x1, x2, x3, x4] 0 from rfl)])
  clear h1 h2 h3 h4
  go_enter Try.func48, Try.ntmps48
  go_wp2
  refine wp_new1 fun w1 B1 HB HZ => ?_
  refine region_b [(0, 0), (1, 0), (2, 1), (3, 1), (4, 0)] (by kernel_rfl) rfl (by kernel_rfl) (by intro _ _ d _ _ h; cases d <;> exact h) ?_
  repeat (first | (refine seq_off (a' := ?_) rfl rfl ?_ ?_; rotate_left; (· simp only [List.getElem_toArray, List.getElem_cons_succ, List.getElem_cons_zero, Act.put, List.setIfInBounds_toArray, List.set_cons_zero, List.set_cons_succ, i64_w, i32_w]; rfl)) | (refine seq_read (v := ?_) (a' := ?_) rfl rfl (fun w' hS => ?_) ?_ ?_; rotate_left 2; (· have b1 := (B1.below hS).cl; go_simp; try with_reducible rfl); (· simp only [List.getElem_toArray, List.getElem_cons_succ, List.getElem_cons_zero, Act.put, List.setIfInBounds_toArray, List.set_cons_zero, List.set_cons_succ, i64_w, i32_w]; rfl)))
  refine seq_do rfl (fun hS => ?_)
  simp only [List.getElem_toArray, List.getElem_cons_succ, List.getElem_cons_zero]
  go_wp2_with (go_at_call 60; refine (minimum60_calls [x0, x1, x2, x3, x4] _ 5 _ (C_of_at (B1.below hS) _ (by simp) ?c1) (by simp) (by simp)).mono ?_; (case c1 => intro j x hx; match j, hx with | 0, hx => (simp at hx; subst hx; rfl) | 1, hx => (simp at hx; subst hx; rfl) | 2, hx => (simp at hx; subst hx; rfl) | 3, hx => (simp at hx; subst hx; rfl) | 4, hx => (simp at hx; subst hx; rfl) | n + 5, hx => simp at hx); intro e w3 h; rw [HM.out] at h; obtain ⟨rfl, rfl⟩ := h)
  refine ⟨hS, ?_⟩
  refine seq_do rfl (fun hS => ?_)
  simp only [List.getElem_toArray, List.getElem_cons_succ, List.getElem_cons_zero]
  go_wp2_with (go_at_call 59; refine (slices_Index_int_int.calls 10 (some ⟨w.heap.size, 0, none⟩) 5 [x0, x1, x2, x3, x4] x0 0 _ (C_of_at (B1.below hS) _ (by simp) ?c1) (by simp) HI.out).mono ?_; (case c1 => intro j x hx; match j, hx with | 0, hx => (simp at hx; subst hx; rfl) | 1, hx => (simp at hx; subst hx; rfl) | 2, hx => (simp at hx; subst hx; rfl) | 3, hx => (simp at hx; subst hx; rfl) | 4, hx => (simp at hx; subst hx; rfl) | n + 5, hx => simp at hx); rintro e w3 ⟨rfl, hb⟩)
  have hS3 := below_step hS hb.below
  refine ⟨hS3, ?_⟩
  repeat (first | (refine seq_off (a' := ?_) rfl rfl ?_ ?_; rotate_left; (· simp only [List.getElem_toArray, List.getElem_cons_succ, List.getElem_cons_zero, Act.put, List.setIfInBounds_toArray, List.set_cons_zero, List.set_cons_succ, i64_w, i32_w]; rfl)) | (refine seq_read (v := ?_) (a' := ?_) rfl rfl (fun w' hS => ?_) ?_ ?_; rotate_left 2; (· have b1 := (B1.below hS).cl; go_simp; try with_reducible rfl); (· simp only [List.getElem_toArray, List.getElem_cons_succ, List.getElem_cons_zero, Act.put, List.setIfInBounds_toArray, List.set_cons_zero, List.set_cons_succ, i64_w, i32_w]; rfl)))
  refine seq_done ?_
  go_wp2
  go_ret
  exact ⟨rfl, below_step HB.out hS3⟩

end Go.Proofs.Ytgdbnioodimlfaa.Wk
