/- The contract of Given of package tub, on a valid floor whose house has one truth. Conditions stand in each theorem. -/
import Derived.Test.YtgdbnioodimlfaaSeq
import Derived.Test.YtgdbnioodimlfaaN5
namespace Go.Proofs.Ytgdbnioodimlfaa.Wk
open Go.RowKit Go.Proofs.YtgdbnioodimlfaaW.PrintWords Go.Proofs.YtgdbnioodimlfaaW.PrintLast Go.Proofs.YtgdbnioodimlfaaW.PrintMore Go.Proofs.Ytgdbnioodimlfaa.PTopWashed Go.Proofs.Ytgdbnioodimlfaa.Sq
attribute [local go_sem] max2_int min2_int max_two min_two max_three min_three max_four min_four
set_option linter.unusedVariables false
set_option linter.unusedSimpArgs false

section
variable {A2 : Option Addr} {c2 : Nat} {A3 : Option Addr} {c3 : Nat} {A4 : Option Addr} {c4 : Nat} {cl : List S65} {ti : List S73} {cp : List S74} {A5 : Option Addr} {c5 : Nat} {qu : List S53}
set_option maxHeartbeats 1000000 in
theorem Given_calls (e0 e1 e2 e3 hr gr tubs op clo : Int) (w : World) (H : FloIn w A2 c2 A3 c3 A4 c4 cl ti cp A5 c5 qu) (F : Flo e0 e1 e2 e3 hr gr cl ti cp tubs op clo qu) :
    Calls Try.prog 10 #[.agg #[.int .i64 hr, .int .i64 gr, .slice A2 cl.length c2, .slice A3 ti.length c3, .slice A4 cp.length c4, .int .i64 tubs, .int .i64 op, .int .i64 clo, .slice A5 qu.length c5]] w fun e w' => Below w.heap.size w w' ∧ ((glv ti cp tubs.toNat = [] ∧ e = .returned (.tuple #[.slice none 0 0, .slice none 0 0, .int .i64 8])) ∨
      (glv ti cp tubs.toNat ≠ [] ∧ ∃ v9 v10, e = .returned (.tuple #[v9, v10, .int .i64 0]) ∧ w'.ownsRow w.heap.size 3 1 v9 (glv ti cp tubs.toNat).length (ints (glv ti cp tubs.toNat)) ∧ w'.ownsRow w.heap.size 53 2 v10 (glv ti cp tubs.toNat).length (flat (fun _ => op) (glv ti cp tubs.toNat).length))) := by
  have HI := Aside0.mk H
  have HF := Aside0.mk F
  clear H F
  by_cases hg : glv ti cp tubs.toNat = []
  · have HG := Aside0.mk hg
    clear hg
    go_enter Try.func10, Try.ntmps10
    go_wp2_with (go_at_call 24; refine (askedF_calls e0 e1 e2 e3 hr gr tubs op clo _ (HI.out.below (below_alloc (Below.refl _ _) _)) HF.out).mono ?_; rintro e w2 ⟨hb, ⟨_, rfl⟩ | ⟨hn, _⟩⟩; rotate_left; exact absurd HG.out hn; obtain ⟨B1, HB⟩ := one_new hb; clear hb)
    refine bodyPost_ret (results_tmp3 rfl _ _ _) rfl ?_
    exact And.intro HB.out (Or.inl (And.intro HG.out rfl))
  · have HG := Aside0.mk hg
    clear hg
    go_enter Try.func10, Try.ntmps10
    go_wp2_with (go_at_call 24; refine (askedF_calls e0 e1 e2 e3 hr gr tubs op clo _ (HI.out.below (below_alloc (Below.refl _ _) _)) HF.out).mono ?_; rintro e w2 ⟨hb, ⟨hn, _⟩ | ⟨_, b, v9, v10, rfl, hA⟩⟩; exact absurd hn HG.out; obtain ⟨B1, HB⟩ := one_new hb; have HA := Aside0.mk hA; clear hb hA)
    have hA := HA.out.a
    simp only [List.cons_append, List.nil_append] at hA
    refine region_b [(0, 0), (1, 0), (2, 0), (3, 0), (4, 0), (5, 0), (6, 0), (7, 0), (8, 0), (9, 0), (10, 0)] (by kernel_rfl) rfl (by kernel_rfl) (by intro _ _ d _ _ h; cases d <;> exact h) ?_
    repeat (first | (refine seq_off (a' := ?_) rfl rfl ?_ ?_; rotate_left; (· simp only [List.getElem_toArray, List.getElem_cons_succ, List.getElem_cons_zero, Act.put, List.setIfInBounds_toArray, List.set_cons_zero, List.set_cons_succ, i64_w, i32_w]; rfl)) | (refine seq_read (v := ?_) (a' := ?_) rfl rfl (fun w' hS => ?_) ?_ ?_; rotate_left 2; (· have bb := (hA.below hS).cl; go_simp; try with_reducible rfl); (· simp only [List.getElem_toArray, List.getElem_cons_succ, List.getElem_cons_zero, Act.put, List.setIfInBounds_toArray, List.set_cons_zero, List.set_cons_succ, i64_w, i32_w]; rfl)))
    refine seq_done ?_
    clear hA
    go_wp2
    refine bodyPost_ret (results_tmp3 rfl _ _ _) rfl ?_
    exact And.intro HB.out.drew (Or.inr (And.intro HG.out ⟨v9, v10, rfl, own_base (own_below HA.out.o9 (Below.refl _ _).drew) (by simp), own_base (own_below HA.out.o10 (Below.refl _ _).drew) (by simp)⟩))
end

end Go.Proofs.Ytgdbnioodimlfaa.Wk

/- Rows that a call made, read as slices. Conditions stand in each theorem. -/
namespace Go.Proofs.Ytgdbnioodimlfaa.Wk
open Go.RowKit Go.Proofs.YtgdbnioodimlfaaW.PrintWords Go.Proofs.YtgdbnioodimlfaaW.PrintLast Go.Proofs.YtgdbnioodimlfaaW.PrintMore Go.Proofs.Ytgdbnioodimlfaa.PTopWashed Go.Proofs.Ytgdbnioodimlfaa.Sq
attribute [local go_sem] max2_int min2_int max_two min_two max_three min_three max_four min_four
set_option linter.unusedVariables false
set_option linter.unusedSimpArgs false

theorem flat_len (f : Nat → Int) (n : Nat) : (flat f n).length = n * 2 := by
  induction n with
  | zero => rfl
  | succ n ih => rw [flat_succ, List.length_append, ih]; simp; omega
theorem flat_get (f : Nat → Int) (n j i : Nat) (hj : j < n) (hi : i < 2) : (flat f n)[j * 2 + i]? = some (.int .i64 (f j)) := by
  induction n with
  | zero => omega
  | succ n ih =>
    rw [flat_succ]
    by_cases h : j < n
    · rw [List.getElem?_append_left (by rw [flat_len]; omega)]
      exact ih h
    · obtain rfl : j = n := by omega
      rw [List.getElem?_append_right (by rw [flat_len]; omega), flat_len]
      match i, hi with
      | 0, _ => simp
      | 1, _ => simp
theorem take_get {cur : Array Value} {m : Nat} {xs : List Value} (h : cur.toList.take m = xs) (i : Nat) (u : Value) (hu : xs[i]? = some u) : cur[i]? = some u := by
  rw [← h] at hu
  obtain ⟨hl, _⟩ := List.getElem?_eq_some_iff.1 hu
  rw [List.length_take] at hl
  rw [List.getElem?_take_of_lt (by omega)] at hu
  simpa using hu
theorem C53_of_own {w : World} {base n : Nat} {v : Value} {f : Nat → Int} (h : w.ownsRow base 53 2 v n (flat f n)) (hn : n ≤ 1000) (h0 : 0 < n) : ∃ A cap, v = .slice A n cap ∧ Kd.C k53 w A n ((List.range n).map fun i => ⟨f i, f i⟩) := by
  obtain ⟨h1, ⟨_, h2⟩ | ⟨g, cap, cur, rfl, h2, h3, h4, h5, h6, h7⟩⟩ := h
  · omega
  · refine ⟨_, cap, rfl, by simp, by omega, fun _ => ⟨_, rfl, fun j p hp => ⟨[.int .i64 p.f0, .int .i64 p.f1], rfl, k53_mk w p, fun i u hu => ?_⟩⟩⟩
    obtain ⟨hj, e⟩ := List.getElem?_eq_some_iff.1 hp
    have hj' : j < n := by simpa using hj
    simp at e
    subst e
    have e2 : (⟨g, 0, none⟩ : Addr).add (j * k53.sz + i) = ⟨g, j * 2 + i, none⟩ := by rw [add_plain]; simp [show k53.sz = 2 from rfl]
    rw [e2, cell_of_row w g _ cur 53 (0, 0) h3]
    refine take_get h7 _ _ ?_
    match i, hu with
    | 0, hu => rw [flat_get f n j 0 hj' (by omega)]; exact hu
    | 1, hu => rw [flat_get f n j 1 hj' (by omega)]; exact hu
/-- The first cell of a row of integers. -/
theorem first_of_own {w : World} {base n : Nat} {v : Value} {x : Int} {xs : List Value} (h : w.ownsRow base 3 1 v n (.int .i64 x :: xs)) : ∃ g cap cur, v = .slice (some ⟨g, 0, none⟩) n cap ∧ At w g cur 3 ∧ cur[0]? = some (.int .i64 x) ∧ 0 < n := by
  obtain ⟨h1, ⟨_, h2⟩ | ⟨g, cap, cur, rfl, h2, h3, h4, h5, h6, h7⟩⟩ := h
  · subst h2; simp at h1
  · exact ⟨g, cap, cur, rfl, ⟨h3⟩, take_get h7 0 _ rfl, by simp at h1; omega⟩

end Go.Proofs.Ytgdbnioodimlfaa.Wk
