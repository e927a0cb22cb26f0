/- The contract of done, where one woman washes in the tub that is free first. Conditions stand in each theorem. -/
import Derived.Test.YtgdbnioodimlfaaSeq
import Derived.Test.YtgdbnioodimlfaaN1
namespace Go.Proofs.Ytgdbnioodimlfaa.Wk
open Go.RowKit Go.Proofs.YtgdbnioodimlfaaW.PrintWords Go.Proofs.YtgdbnioodimlfaaW.PrintLast Go.Proofs.YtgdbnioodimlfaaW.PrintMore Go.Proofs.Ytgdbnioodimlfaa.PTopWashed Go.Proofs.Ytgdbnioodimlfaa.Sq
attribute [local go_sem] max2_int min2_int max_two min_two max_three min_three max_four min_four
set_option linter.unusedVariables false
set_option linter.unusedSimpArgs false

theorem info3' : ∃ i, Try.prog.info? 3 = some i ∧ i.zero = some (.int .i64 0) ∧ i.size = 1 ∧ i.bytes = 8 := by
  have h := info3
  cases e : Try.prog.info? 3 with
  | none => rw [e] at h; cases h
  | some i =>
    rw [e] at h
    simp at h
    exact ⟨i, rfl, h.1, h.2.1, h.2.2⟩
/-- A slice of one integer in a block of its own. -/
structure One (w : World) (B : Nat) (v : Value) (x : Int) : Prop where
  out : ∃ (g cap : Nat) (cur : Array Value), v = .slice (some ⟨g, 0, none⟩) 1 cap ∧ At w g cur 3 ∧ cur[0]? = some (.int .i64 x) ∧ B ≤ g
theorem One.below {w w' : World} {B : Nat} {v : Value} {x : Int} (h : One w B v x) (hb : Below w.heap.size w w') : One w' B v x := by
  obtain ⟨g, cap, cur, h1, h2, h3, h4⟩ := h.out
  exact ⟨g, cap, cur, h1, h2.below hb, h3, h4⟩
theorem One.lt {w : World} {B : Nat} {v : Value} {x : Int} (h : One w B v x) : ∀ g, v.ownBlock = some g → g < w.heap.size := by
  obtain ⟨g, cap, cur, rfl, h2, h3, h4⟩ := h.out
  intro k hk
  cases hk
  exact h2.lt
theorem One.ne {w w' : World} {B B' : Nat} {v v' : Value} {x x' : Int} (h : One w B v x) (h' : One w' B' v' x') (hB : w.heap.size ≤ B') : v.ownBlock ≠ v'.ownBlock := by
  obtain ⟨g, cap, cur, rfl, h2, h3, h4⟩ := h.out
  obtain ⟨g', cap', cur', rfl, h2', h3', h4'⟩ := h'.out
  intro e
  have hlt := h2.lt
  have e' : g = g' := by injection e
  omega
theorem One.base {w : World} {B B' : Nat} {v : Value} {x : Int} (h : One w B v x) (hB : B' ≤ B) : One w B' v x := by
  obtain ⟨g, cap, cur, h1, h2, h3, h4⟩ := h.out
  exact ⟨g, cap, cur, h1, h2, h3, Nat.le_trans hB h4⟩
section
variable {P : Program} {ops : Array Oper} {Q : Exit → Act → World → Prop} {S : World → Prop} {ks : Plan} {tr : Tree} {a : Act} {B B' g : Nat} {cs : Array Value} {t : TypeId} {w0 w0' w : World}
theorem tree_at1 (hS : Below B w0 w) (hA : At w g cs t) (h : ∀ w', Below B w0 w' → At w' g cs t → tr.wp P ops Q S a w') : tr.wp P ops Q S a w := h w hS hA
theorem tree_at2 (hS : Below B w0 w) (hb : Below B' w0' w) (hA : At w g cs t) (h : ∀ w', Below B w0 w' → Below B' w0' w' → At w' g cs t → tr.wp P ops Q S a w') : tr.wp P ops Q S a w := h w hS hb hA
theorem seq_at2 (hS : Below B w0 w) (hb : Below B' w0' w) (hA : At w g cs t) (h : ∀ w', Below B w0 w' → Below B' w0' w' → At w' g cs t → wpSeq P ops Q S ks a w') : wpSeq P ops Q S ks a w := h w hS hb hA
end
/-- append(nil, x): a new slice. -/
theorem append_one {P : Program} {w : World} {ops : Array Oper} {rest : List Oper} {o : Oper} {a : Act} {Q : Exit → Act → World → Prop} (hP : P.underlying 35 = some (.slice 3)) (hi : ∃ i, P.info? 3 = some i ∧ i.zero = some (.int .i64 0) ∧ i.size = 1 ∧ i.bytes = 8) (hgd : o.guard = none) (s x : Operand)
    (ho : o.op = .call { callee := .builtin .append, args := #[s, x], argTypes := #[35, 35] }) (hs : a.eval s = .slice none 0 0) (g c : Nat) (u : Int) (t2 : TypeId) (hx : a.eval x = .slice (some ⟨g, 0, none⟩) 1 c) (hA : At w g #[.int .i64 u] t2) {B : Nat} {w0 : World} (hB : Below B w0 w) (hBs : B ≤ w.heap.size)
    (h : ∀ v w', One w' w.heap.size v u → Below B w0 w' → Below w.heap.size w w' → wpList P ops Q rest (a.put o.dst v) w') : wpList P ops Q (o :: rest) a w := by
  obtain ⟨i, h1, h2, h3, h4⟩ := hi
  refine append_nil hgd s x 35 ho 3 i _ 1 8 hP h1 h2 h3 h4 rfl (by omega) hs g c #[.int .i64 u] t2 hx hA rfl (by simp [Value.oneCell']) (by omega) ?_
  intro g' cap cur w' hA' hc hg hb
  exact h _ w' ⟨g', cap, cur, rfl, hA', hc 0 (by omega), hg⟩ (below_then hB hBs hb) hb

set_option maxHeartbeats 1000000 in
theorem done_calls (x0 x1 x2 x3 x4 : Int) (ms : List Int) (A2 : Option Addr) (c2 : Nat) (A3 : Option Addr) (c3 : Nat) (w : World) (h2 : Kd.C (Kd.int .i64) w A2 ms.length ms) (hm : 1 ≤ ms.length) (h3 : Kd.C (Kd.int .i64) w A3 1 [0])
    (h1 : x0 ≤ x1) (h2' : x0 ≤ x2) (h3' : x0 ≤ x3) (h4 : x0 ≤ x4) (hb : -100000 ≤ x0 + gi ms 0) (hb2 : x0 + gi ms 0 ≤ 100000) :
    Calls Try.prog 29 #[.agg #[.int .i64 x0, .int .i64 x1, .int .i64 x2, .int .i64 x3, .int .i64 x4], .slice A2 ms.length c2, .slice A3 1 c3] w fun e w' => ∃ v6 v7, e = .returned (.tuple #[v6, v7]) ∧ One w' w.heap.size v6 0 ∧ One w' w.heap.size v7 (x0 + gi ms 0) ∧ v6.ownBlock ≠ v7.ownBlock ∧ Below w.heap.size w w' := by
  have HL := Aside0.mk (And.intro h1 (And.intro h2' (And.intro h3' h4)))
  have HW := Aside0.mk (w64 (x := x0 + gi ms 0) (by omega) (by omega))
  clear h1 h2' h3' h4 hb hb2
  obtain ⟨ad, ee, m0⟩ := at_nat h2 0 (by omega)
  cases ee
  rw [add_zero] at m0
  obtain ⟨ad3, ee, o0⟩ := at_nat h3 0 (by omega)
  cases ee
  rw [add_zero] at o0
  have o0' : w.cell? ad3 = some (.int .i64 0) := o0
  have hm0 : 0 < ms.length := hm
  generalize gi ms 0 = m at m0 HW
  have HM := Aside0.mk m0
  have HO := Aside0.mk o0'
  clear h2 h3 o0 m0 o0'
  go_enter Try.func29, Try.ntmps29
  go_wp2
  refine wp_new1 fun w1 B1 HB HZ => ?_
  go_loopg [6, 7, 13] 1 (fun kq v6 v7 v13 w' => ∃ j : Nat, v13 = .int .i64 (j : Int) ∧ Aside0 (j + kq = 1) ∧ Aside0 (Below w.heap.size w w') ∧ (Aside0 (j = 0 ∧ v6 = .slice none 0 0 ∧ v7 = .slice none 0 0 ∧ w1 = w') ∨ Aside0 (j = 1 ∧ One w' w.heap.size v6 0 ∧ One w' w.heap.size v7 (x0 + m) ∧ v6.ownBlock ≠ v7.ownBlock)))
  case atStart => exact ⟨0, rfl, ⟨rfl⟩, HB, .inl ⟨rfl, rfl, rfl, rfl⟩⟩
  case round =>
    obtain ⟨j, rfl, HK, HB', HD⟩ := hrel
    match gk, HK with
    | 1, HK =>
      obtain rfl : j = 0 := by have := HK.out; omega
      rcases HD with HD | HD
      case inr => exact absurd HD.out.1 (by omega)
      obtain ⟨_, rfl, rfl, rfl⟩ := HD.out
      clear HD HB'
      have o0 := cell_b HB.out HO.out
      have b1 := B1.cl
      go_wp2_with (go_at_call 48; refine (first_calls x0 x1 x2 x3 x4 _ HL.out.1 HL.out.2.1 HL.out.2.2.1 HL.out.2.2.2).mono ?_; rintro e w2 ⟨rfl, hb⟩; replace B1 := B1.below hb; replace HB := Aside0.mk (below_step HB.out hb); clear b1 o0 hb)
      have m0 := cell_b HB.out HM.out
      refine region_b [(0, 0), (1, 0), (2, 0), (3, 0), (4, 0), (5, 0), (6, 0), (7, 0), (8, 0), (9, 2)] (by kernel_rfl) rfl (by kernel_rfl) (by intro _ _ d _ _ h; cases d <;> exact h) ?_
      repeat (first | (refine seq_off (a' := ?_) rfl rfl ?_ ?_; rotate_left; (· simp only [List.getElem_toArray, List.getElem_cons_succ, List.getElem_cons_zero, Act.put, List.setIfInBounds_toArray, List.set_cons_zero, List.set_cons_succ, i64_w, i32_w]; rfl)) | (refine seq_read (v := ?_) (a' := ?_) rfl rfl (fun w' hS => ?_) ?_ ?_; rotate_left 2; (· have b1 := (B1.below hS).cl; have b0 := cell_b hS m0; go_simp; try with_reducible rfl); (· simp only [List.getElem_toArray, List.getElem_cons_succ, List.getElem_cons_zero, Act.put, List.setIfInBounds_toArray, List.set_cons_zero, List.set_cons_succ, i64_w, i32_w]; rfl)))
      refine seq_last rfl ?_
      simp only [List.getElem_toArray, List.getElem_cons_succ, List.getElem_cons_zero]
      have b1 := B1.cl
      have f1 := B1.fr
      go_wp2
      refine seq_at1 (B := w.heap.size) (w0 := w) (g := w.heap.size) (cs := #[.int .i64 (x0 + m), .int .i64 x1, .int .i64 x2, .int .i64 x3, .int .i64 x4]) (t := 87) (HB.out.setCell (p := ⟨w.heap.size, 0, none⟩) (Nat.le_refl _) (.int .i64 (wrap64 (x0 + m)))).drew (by have h := (B1.set 0 (.int .i64 (wrap64 (x0 + m)))).drew; rw [HW.out] at h ⊢; simpa using h) fun w3 HB' B1' => ?_
      replace HB := Aside0.mk HB'
      refine seq_done ?_
      clear b1 f1 m0 B1 HB'
      have hz3 := B1'.lt
      go_wp2
      refine region_tree (Tree.fork [(0, 0), (1, 0), (4, 0), (5, 0), (6, 0), (7, 0)] 2 8 (Tree.fork [] 3 8 (Tree.seg [(8, 1), (9, 1), (10, 0), (11, 0)]) (Tree.seg [(3, 1), (9, 1), (10, 0), (11, 0)])) (Tree.seg [(2, 1), (3, 1), (9, 1), (10, 0), (11, 0)])) [] (by kernel_rfl) rfl (by kernel_rfl) (by intro _ _ d _ _ h; cases d <;> exact h) ?_
      refine tree_fork ?_
      repeat (first | (refine seq_off (a' := ?_) rfl rfl ?_ ?_; rotate_left; (· simp only [List.getElem_toArray, List.getElem_cons_succ, List.getElem_cons_zero, Act.put, List.setIfInBounds_toArray, List.set_cons_zero, List.set_cons_succ, i64_w, i32_w]; rfl)) | (refine seq_read (v := ?_) (a' := ?_) rfl rfl (fun w' hS => ?_) ?_ ?_; rotate_left 2; (· have b1 := (B1'.below hS).cl; go_simp; try with_reducible rfl); (· simp only [List.getElem_toArray, List.getElem_cons_succ, List.getElem_cons_zero, Act.put, List.setIfInBounds_toArray, List.set_cons_zero, List.set_cons_succ, i64_w, i32_w]; rfl)))
      refine seq_done ?_
      refine And.intro ?_ ?_
      all_goals refine ⟨_, rfl, fun hS => ?_⟩
      · simp only [List.getElem_toArray, List.getElem_cons_succ, List.getElem_cons_zero]
        go_wp2
        refine ⟨below_alloc hS _, tree_at1 (g := w3.heap.size) (cs := #[.int .i64 0]) (t := 3) (below_alloc hS _) (by first | exact At.new w3.drew _ _ | exact (At.new w3 _ _).drew) fun w4 hS4 hA4 => ?_⟩
        clear hS
        refine tree_fork ?_
        refine seq_done ?_
        refine And.intro ?_ ?_
        all_goals refine ⟨_, rfl, fun hS => ?_⟩
        · simp only [List.getElem_toArray, List.getElem_cons_succ, List.getElem_cons_zero]
          refine append_one Try.underlying35 info3' rfl (.tmp 28) (.tmp 30) rfl rfl w3.heap.size 1 0 3 rfl hA4 hS hS.size ?_
          intro v w5 hO5 hS5 hb5
          refine ⟨hS5, tree_seg ?_⟩
          refine seq_do rfl (fun _ => ?_)
          simp only [List.getElem_toArray, List.getElem_cons_succ, List.getElem_cons_zero]
          go_wp2
          refine ⟨below_alloc hS5 _, seq_at2 (g := w5.heap.size) (cs := #[.int .i64 (x0 + m)]) (t := 3) (below_alloc hS5 _) (below_alloc (Below.refl w5.heap.size w5) _) (At.new w5 _ _) fun w6 hS6 hb6 hA6 => ?_⟩
          refine seq_do rfl (fun _ => ?_)
          simp only [List.getElem_toArray, List.getElem_cons_succ, List.getElem_cons_zero]
          refine append_one Try.underlying35 info3' rfl (.tmp 32) (.tmp 36) rfl rfl w5.heap.size 1 (x0 + m) 3 rfl hA6 hS6 hS6.size ?_
          intro v2 w7 hO7 hS7 hb7
          refine ⟨hS7, ?_⟩
          have hOv := (hO5.below hb6).below hb7
          have hOv2 := hO7
          have hne := One.ne hO5 hO7 (by have := hb6.size; omega)
          repeat (first | (refine seq_off (a' := ?_) rfl rfl ?_ ?_; rotate_left; (· simp only [List.getElem_toArray, List.getElem_cons_succ, List.getElem_cons_zero, Act.put, List.setIfInBounds_toArray, List.set_cons_zero, List.set_cons_succ, i64_w, i32_w]; rfl)) | (refine seq_read (v := ?_) (a' := ?_) rfl rfl (fun w' hS => ?_) ?_ ?_; rotate_left 2; (· skip; go_simp; try with_reducible rfl); (· simp only [List.getElem_toArray, List.getElem_cons_succ, List.getElem_cons_zero, Act.put, List.setIfInBounds_toArray, List.set_cons_zero, List.set_cons_succ, i64_w, i32_w]; rfl)))
          refine seq_done ?_
          have hw7 := below_then HB.out HB.out.size hS7
          have hsz := hS7.size
          go_wp2
          have z4 := hS4.size
          have z5 := hS5.size
          have z6 := hS6.size
          go_roundg 0
          case measure => omega
          case rel => exact ⟨1, rfl, ⟨rfl⟩, ⟨hw7⟩, .inr ⟨rfl, hOv.base (by omega), hOv2.base (by omega), hne⟩⟩
        · simp only [List.getElem_toArray, List.getElem_cons_succ, List.getElem_cons_zero]
          go_wp2
          refine ⟨below_alloc hS _, tree_at2 (g := w4.heap.size) (cs := #[.int .i64 (x0 + m)]) (t := 3) (below_alloc hS _) (below_alloc (Below.refl w4.heap.size w4) _) (At.new w4 _ _) fun w5 hS5 hb5 hA5 => ?_⟩
          have hA4' := hA4.below hb5
          refine tree_seg ?_
          refine seq_do rfl (fun _ => ?_)
          simp only [List.getElem_toArray, List.getElem_cons_succ, List.getElem_cons_zero]
          refine append_one Try.underlying35 info3' rfl (.tmp 28) (.tmp 30) rfl rfl w3.heap.size 1 0 3 rfl hA4' hS5 hS5.size ?_
          intro v w6 hO6 hS6 hb6
          refine ⟨hS6, ?_⟩
          refine seq_do rfl (fun _ => ?_)
          simp only [List.getElem_toArray, List.getElem_cons_succ, List.getElem_cons_zero]
          refine append_one Try.underlying35 info3' rfl (.tmp 32) (.tmp 36) rfl rfl w4.heap.size 1 (x0 + m) 3 rfl (hA5.below hb6) hS6 hS6.size ?_
          intro v2 w7 hO7 hS7 hb7
          refine ⟨hS7, ?_⟩
          have hOv := hO6.below hb7
          have hOv2 := hO7
          have hne := One.ne hO6 hO7 (Nat.le_refl _)
          repeat (first | (refine seq_off (a' := ?_) rfl rfl ?_ ?_; rotate_left; (· simp only [List.getElem_toArray, List.getElem_cons_succ, List.getElem_cons_zero, Act.put, List.setIfInBounds_toArray, List.set_cons_zero, List.set_cons_succ, i64_w, i32_w]; rfl)) | (refine seq_read (v := ?_) (a' := ?_) rfl rfl (fun w' hS => ?_) ?_ ?_; rotate_left 2; (· skip; go_simp; try with_reducible rfl); (· simp only [List.getElem_toArray, List.getElem_cons_succ, List.getElem_cons_zero, Act.put, List.setIfInBounds_toArray, List.set_cons_zero, List.set_cons_succ, i64_w, i32_w]; rfl)))
          refine seq_done ?_
          have hw7 := below_then HB.out HB.out.size hS7
          have hsz := hS7.size
          go_wp2
          have z4 := hS4.size
          have z5 := hS5.size
          have z6 := hS6.size
          go_roundg 0
          case measure => omega
          case rel => exact ⟨1, rfl, ⟨rfl⟩, ⟨hw7⟩, .inr ⟨rfl, hOv.base (by omega), hOv2.base (by omega), hne⟩⟩
      · simp only [List.getElem_toArray, List.getElem_cons_succ, List.getElem_cons_zero]
        go_wp2
        refine ⟨below_alloc hS _, tree_at1 (g := w3.heap.size) (cs := #[.int .i64 (x0 + m)]) (t := 3) (below_alloc hS _) (by first | exact At.new w3.drew _ _ | exact (At.new w3 _ _).drew) fun w4 hS4 hA4 => ?_⟩
        clear hS
        refine tree_seg ?_
        refine seq_do rfl (fun _ => ?_)
        simp only [List.getElem_toArray, List.getElem_cons_succ, List.getElem_cons_zero]
        go_wp2
        refine ⟨below_alloc hS4 _, seq_at2 (g := w4.heap.size) (cs := #[.int .i64 0]) (t := 3) (below_alloc hS4 _) (below_alloc (Below.refl w4.heap.size w4) _) (At.new w4 _ _) fun w5 hS5 hb5 hA5 => ?_⟩
        refine seq_do rfl (fun _ => ?_)
        simp only [List.getElem_toArray, List.getElem_cons_succ, List.getElem_cons_zero]
        refine append_one Try.underlying35 info3' rfl (.tmp 28) (.tmp 30) rfl rfl w4.heap.size 1 0 3 rfl hA5 hS5 hS5.size ?_
        intro v w6 hO6 hS6 hb6
        refine ⟨hS6, ?_⟩
        refine seq_do rfl (fun _ => ?_)
        simp only [List.getElem_toArray, List.getElem_cons_succ, List.getElem_cons_zero]
        refine append_one Try.underlying35 info3' rfl (.tmp 32) (.tmp 36) rfl rfl w3.heap.size 1 (x0 + m) 3 rfl ((hA4.below hb5).below hb6) hS6 hS6.size ?_
        intro v2 w7 hO7 hS7 hb7
        refine ⟨hS7, ?_⟩
        have hOv := hO6.below hb7
        have hOv2 := hO7
        have hne := One.ne hO6 hO7 (Nat.le_refl _)
        repeat (first | (refine seq_off (a' := ?_) rfl rfl ?_ ?_; rotate_left; (· simp only [List.getElem_toArray, List.getElem_cons_succ, List.getElem_cons_zero, Act.put, List.setIfInBounds_toArray, List.set_cons_zero, List.set_cons_succ, i64_w, i32_w]; rfl)) | (refine seq_read (v := ?_) (a' := ?_) rfl rfl (fun w' hS => ?_) ?_ ?_; rotate_left 2; (· skip; go_simp; try with_reducible rfl); (· simp only [List.getElem_toArray, List.getElem_cons_succ, List.getElem_cons_zero, Act.put, List.setIfInBounds_toArray, List.set_cons_zero, List.set_cons_succ, i64_w, i32_w]; rfl)))
        refine seq_done ?_
        have hw7 := below_then HB.out HB.out.size hS7
        have hsz := hS7.size
        go_wp2
        have z4 := hS4.size
        have z5 := hS5.size
        have z6 := hS6.size
        go_roundg 0
        case measure => omega
        case rel => exact ⟨1, rfl, ⟨rfl⟩, ⟨hw7⟩, .inr ⟨rfl, hOv.base (by omega), hOv2.base (by omega), hne⟩⟩
    | 0, HK =>
      obtain rfl : j = 1 := by have := HK.out; omega
      rcases HD with HD | HD
      case inl => exact absurd HD.out.1 (by omega)
      go_wp2
      go_ret2
      exact ⟨_, _, rfl, HD.out.2.1, HD.out.2.2.1, HD.out.2.2.2, HB'.out⟩

end Go.Proofs.Ytgdbnioodimlfaa.Wk
