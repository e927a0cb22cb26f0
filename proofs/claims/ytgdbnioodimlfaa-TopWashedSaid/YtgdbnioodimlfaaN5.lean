/- The contract of asked of package tub, on a valid floor whose house has one truth. Conditions stand in each theorem. -/
import Derived.Test.YtgdbnioodimlfaaSeq
import Derived.Test.YtgdbnioodimlfaaN4
import Derived.OwnWalk
namespace Go.Proofs.Ytgdbnioodimlfaa.Wk
open Go.RowKit Go.Proofs.YtgdbnioodimlfaaW.PrintWords Go.Proofs.YtgdbnioodimlfaaW.PrintLast Go.Proofs.YtgdbnioodimlfaaW.PrintMore Go.Proofs.Ytgdbnioodimlfaa.PTopWashed Go.Proofs.Ytgdbnioodimlfaa.Sq
attribute [local go_sem] max2_int min2_int max_two min_two max_three min_three max_four min_four
set_option linter.unusedVariables false
set_option linter.unusedSimpArgs false

section
variable {w w' : World} {base base' e e' size size' n n' g : Nat} {v v' : Value} {xs xs' : List Value} {cs : Array Value} {t : TypeId} {row : Option Nat}
theorem own_ne_at (h : w.ownsRow base e size v n xs) (hA : At w g cs t) (hne : e ≠ t) : some g ≠ v.ownBlock := by
  obtain ⟨h0, ⟨rfl, _⟩ | ⟨k, cap, cur, rfl, h2, h3, h4⟩⟩ := h
  · simp [Value.ownBlock]
  · intro hk
    have hk' : g = k := by injection hk
    subst hk'
    rw [hA.out] at h3
    injection h3 with h5
    injection h5 with _ h6
    exact hne h6.symm
theorem own_ne_own (h : w.ownsRow base e size v n xs) (h' : w.ownsRow base' e' size' v' n' xs') (hne : e ≠ e') : v.ownBlock = none ∨ v.ownBlock ≠ v'.ownBlock := by
  obtain ⟨h0, ⟨rfl, _⟩ | ⟨k, cap, cur, rfl, h2, h3, h4⟩⟩ := h
  · exact .inl rfl
  · exact .inr (own_ne_at h' ⟨h3⟩ (Ne.symm hne))
theorem at_grown (hA : At w g cs t) (hg : w.grownBy w' row) (hne : some g ≠ row) : At w' g cs t := ⟨(hg.block g hA.lt hne).trans hA.out⟩
theorem own_grown (h : w.ownsRow base e size v n xs) (hg : w.grownBy w' row) (hne : v.ownBlock = none ∨ v.ownBlock ≠ row) : w'.ownsRow base e size v n xs := by
  obtain ⟨h0, h1 | ⟨k, cap, cur, rfl, h2, h3, h4⟩⟩ := h
  · exact ⟨h0, .inl h1⟩
  · refine ⟨h0, .inr ⟨k, cap, cur, rfl, h2, (hg.block k (Array.getElem?_eq_some_iff.1 h3).1 ?_).trans h3, h4⟩⟩
    rcases hne with h | h
    · cases h
    · exact h
theorem own_set (h : w.ownsRow base e size v n xs) (hne : some g ≠ v.ownBlock) (i : Nat) (u : Value) : (w.setCell ⟨g, i, none⟩ u).ownsRow base e size v n xs := by
  obtain ⟨h0, h1 | ⟨k, cap, cur, rfl, h2, h3, h4⟩⟩ := h
  · exact ⟨h0, .inl h1⟩
  · refine ⟨h0, .inr ⟨k, cap, cur, rfl, h2, (Below.heap_setCell _ _ _ _ ?_).trans h3, h4⟩⟩
    intro e
    exact hne (by subst e; rfl)
end
theorem own_form {w : World} {base e size n : Nat} {v : Value} {xs : List Value} (h : w.ownsRow base e size v n xs) : ∃ A cap, v = .slice A n cap := by
  obtain ⟨h0, ⟨rfl, rfl⟩ | ⟨k, cap, cur, rfl, h2, h3, h4⟩⟩ := h
  · exact ⟨none, 0, rfl⟩
  · exact ⟨_, cap, rfl⟩
theorem info53' : ∃ i, Try.prog.info? 53 = some i ∧ i.zero = some (.agg #[.int .i64 0, .int .i64 0]) ∧ i.size = 2 ∧ i.bytes = 16 := by
  have h := info53
  cases e : Try.prog.info? 53 with
  | none => rw [e] at h; cases h
  | some i =>
    rw [e] at h
    simp at h
    exact ⟨i, rfl, h.1, h.2.1, h.2.2⟩
/-- The tubs that are given out, of the first ones. -/
def glv (ti : List S73) (cp : List S74) (k : Nat) : List Nat := (List.range k).filter fun n => !opn ti cp (n : Int)
theorem glv_yes (ti : List S73) (cp : List S74) (k : Nat) (h : opn ti cp (k : Int) = true) : glv ti cp (k + 1) = glv ti cp k := by simp [glv, List.range_succ, h]
theorem glv_no (ti : List S73) (cp : List S74) (k : Nat) (h : opn ti cp (k : Int) = false) : glv ti cp (k + 1) = glv ti cp k ++ [k] := by simp [glv, List.range_succ, h]
theorem glv_len (ti : List S73) (cp : List S74) (k : Nat) : (glv ti cp k).length ≤ k := by
  unfold glv
  exact Nat.le_trans (List.length_filter_le _ _) (by simp)
def ints (l : List Nat) : List Value := l.map fun (n : Nat) => Value.int .i64 (n : Int)

section
variable {A2 : Option Addr} {c2 : Nat} {A3 : Option Addr} {c3 : Nat} {A4 : Option Addr} {c4 : Nat} {cl : List S65} {ti : List S73} {cp : List S74} {A5 : Option Addr} {c5 : Nat} {qu : List S53}
/-- A floor at work at block b. -/
structure AskIn (w : World) (B b : Nat) (fc : List Value) (op : Int) (gl : List Nat) (v9 v10 : Value) : Prop where
  a : At w b (fc ++ [v9, v10]).toArray 81
  o9 : w.ownsRow B 3 1 v9 gl.length (ints gl)
  o10 : w.ownsRow B 53 2 v10 gl.length (flat (fun _ => op) gl.length)

set_option maxHeartbeats 2000000 in
theorem askedF_calls (e0 e1 e2 e3 hr gr tubs op clo : Int) (w : World) (H : FloIn w A2 c2 A3 c3 A4 c4 cl ti cp A5 c5 qu) (F : Flo e0 e1 e2 e3 hr gr cl ti cp tubs op clo qu) :
    Calls Try.prog 24 #[.agg #[.int .i64 hr, .int .i64 gr, .slice A2 cl.length c2, .slice A3 ti.length c3, .slice A4 cp.length c4, .int .i64 tubs, .int .i64 op, .int .i64 clo, .slice A5 qu.length c5]] w fun e w' => Below w.heap.size w w' ∧ ((glv ti cp tubs.toNat = [] ∧ e = .returned (.tuple #[.pointer none, .int .i64 8])) ∨
      (glv ti cp tubs.toNat ≠ [] ∧ ∃ b v9 v10, e = .returned (.tuple #[.pointer (some ⟨b, 0, none⟩), .int .i64 0]) ∧ AskIn w' w.heap.size b [.int .i64 hr, .int .i64 gr, .slice A2 cl.length c2, .slice A3 ti.length c3, .slice A4 cp.length c4, .int .i64 tubs, .int .i64 op, .int .i64 clo, .slice A5 qu.length c5] op (glv ti cp tubs.toNat) v9 v10)) := by
  have HI := Aside0.mk H
  have HF := Aside0.mk F
  clear H F
  go_enter Try.func24, Try.ntmps24
  go_upto_region 5 with (go_at_call 44; refine (CheckFloor_calls e0 e1 e2 e3 hr gr tubs op clo _ (HI.out.below (below_alloc (Below.refl _ _) _)) HF.out).mono ?_; rintro e w2 ⟨rfl, hb⟩; obtain ⟨B1, HB⟩ := one_new hb; clear hb; have b1 := B1.cl; have hl1 := B1.lt)
  refine wp_new1 fun w3 B2 HB2 HZ2 => ?_
  replace B1 := B1.below HB2.out
  replace HB := Aside0.mk (below_step HB.out HB2.out)
  obtain ⟨b, hb⟩ : ∃ b, w2.heap.size = b := ⟨_, rfl⟩
  rw [hb] at B2 ⊢
  have HBW := Aside0.mk (show w.heap.size < b from by omega)
  clear b1 hl1 hb HB2 HZ2
  have b1 := B1.cl
  go_wp2
  clear b1
  go_loopg [19] tubs.toNat (fun kq v19 w' => ∃ (j : Nat) (v9 v10 : Value), v19 = .int .i64 (j : Int) ∧ Aside0 (j + kq = tubs.toNat) ∧ Aside0 (At w' w.heap.size #[.int .i64 hr, .int .i64 gr, .slice A2 cl.length c2, .slice A3 ti.length c3, .slice A4 cp.length c4, .int .i64 tubs, .int .i64 op, .int .i64 clo, .slice A5 qu.length c5] 48) ∧ Aside0 (At w' b #[.int .i64 hr, .int .i64 gr, .slice A2 cl.length c2, .slice A3 ti.length c3, .slice A4 cp.length c4, .int .i64 tubs, .int .i64 op, .int .i64 clo, .slice A5 qu.length c5, v9, v10] 81) ∧ Aside0 (w'.ownsRow w.heap.size 3 1 v9 (glv ti cp j).length (ints (glv ti cp j))) ∧ Aside0 (w'.ownsRow w.heap.size 53 2 v10 (glv ti cp j).length (flat (fun _ => op) (glv ti cp j).length)) ∧ Aside0 (Below w.heap.size w w'))
  case atStart => exact ⟨0, _, _, rfl, ⟨by omega⟩, ⟨B1⟩, ⟨B2⟩, ⟨World.ownsRow_nil _ _ _ _⟩, ⟨World.ownsRow_nil _ _ _ _⟩, HB⟩
  case round =>
    clear B1 B2 HB
    obtain ⟨j, v9, v10, rfl, HK, H1, H2, H9, H10, HB⟩ := hrel
    have ht4 := HF.out.t4
    have ht1 := HF.out.t1
    by_cases hlt : (j : Int) < tubs
    · obtain ⟨k1, rfl⟩ : ∃ k1, gk = k1 + 1 := ⟨gk - 1, by have := HK.out; omega⟩
      have b1 := H1.out.cl
      have hl1 := H1.out.lt
      by_cases ho : opn ti cp (j : Int) = true
      · go_wp2_with (go_at_call 16; refine (FreeOpen_calls e0 e1 e2 e3 hr gr (j : Int) _ (HI.out.below HB.out).h HF.out.T (by omega) (by omega) ho).mono ?_; rintro e w4 ⟨rfl, hb⟩; replace H1 := Aside0.mk ((H1.out.below hb).alloc (.cells #[.int .i64 0, .int .i64 0] 65)); replace H2 := Aside0.mk ((H2.out.below hb).alloc (.cells #[.int .i64 0, .int .i64 0] 65)); replace H9 := Aside0.mk (own_alloc (own_below H9.out hb) (.cells #[.int .i64 0, .int .i64 0] 65)); replace H10 := Aside0.mk (own_alloc (own_below H10.out hb) (.cells #[.int .i64 0, .int .i64 0] 65)); replace HB := Aside0.mk (below_alloc (below_step HB.out hb) (.cells #[.int .i64 0, .int .i64 0] 65)); clear b1 hb)
        go_roundg k1
        case measure => omega
        case rel => exact ⟨j + 1, v9, v10, by go_num, ⟨by have := HK.out; omega⟩, H1, H2, ⟨by rw [glv_yes ti cp j ho]; exact H9.out⟩, ⟨by rw [glv_yes ti cp j ho]; exact H10.out⟩, HB⟩
      · have ho' : opn ti cp (j : Int) = false := by simpa using ho
        clear ho
        have hnl : ¬ (op < frmK e0 e1 e2 e3 ti cp (j : Int) ti.length) := by have := HF.out.fr (j : Int); omega
        go_upto_region 10 with (go_at_call 16; refine (Free_calls e0 e1 e2 e3 hr gr (j : Int) _ (HI.out.below HB.out).h HF.out.T (by omega) (by omega) ho').mono ?_; rintro e w4 ⟨rfl, hb⟩; replace H1 := Aside0.mk (H1.out.below hb); replace H2 := Aside0.mk (H2.out.below hb); replace H9 := Aside0.mk (own_below H9.out hb); replace H10 := Aside0.mk (own_below H10.out hb); replace HB := Aside0.mk (below_step HB.out hb); clear b1 hb)
        refine wp_new1 fun w5 B7 HB5 HZ5 => ?_
        replace H1 := Aside0.mk (H1.out.below HB5.out)
        replace H2 := Aside0.mk (H2.out.below HB5.out)
        replace H9 := Aside0.mk (own_below H9.out HB5.out)
        replace H10 := Aside0.mk (own_below H10.out HB5.out)
        replace HB := Aside0.mk (below_step HB.out HB5.out)
        have hl5 := H2.out.lt
        have bb := H2.out.cl
        obtain ⟨i3, hi1, hi2, hi3, hi4⟩ := info3'
        have H3 := Aside0.mk (And.intro hi1 (And.intro hi2 (And.intro hi3 hi4)))
        obtain ⟨i53, hk1, hk2, hk3, hk4⟩ := info53'
        have H53 := Aside0.mk (And.intro hk1 (And.intro hk2 (And.intro hk3 hk4)))
        clear hi1 hi2 hi3 hi4 hk1 hk2 hk3 hk4 hl1
        have hgl := Nat.le_trans (glv_len ti cp j) (show j ≤ 4 from by omega)
        generalize hfr : frmK e0 e1 e2 e3 ti cp (j : Int) ti.length = fr at B7 hnl ⊢
        clear hfr
        go_upto_region 11 with (at_builtin; refine wpList_append_own _ rfl (.tmp 35) (.tmp 37) 35 rfl w.heap.size 3 i3 _ 1 8 Try.underlying35 H3.out.1 H3.out.2.1 H3.out.2.2.1 H3.out.2.2.2 rfl (by omega) v9 (glv ti cp j).length (ints (glv ti cp j)) rfl (own_alloc H9.out _) ⟨w5.heap.size, 0, none⟩ 1 1 [.int .i64 (j : Int)] rfl rfl ?news (by simp [Value.oneCell']) (by unfold maxLen; omega) (by omega) ?base ?_; (case news => intro k u hk; match k, hk with | 0, hk => (simp at hk; subst hk; rw [add_zero]; exact ((At.new w5 _ _).cl 0).trans rfl)); (case base => (have := HB.out.size; simp; omega)); intro v9' w8 hown hgr _; obtain ⟨A9, k9, hv9⟩ := own_form hown; subst hv9; have HO8 := Aside0.mk hown; have HG8 := Aside0.mk hgr; clear hown hgr bb; have A8 := at_grown (H2.out.alloc (.cells #[.int .i64 (j : Int)] 3)) HG8.out (own_ne_at H9.out H2.out (by decide)); have b8 := A8.cl; have f8 := A8.fr)
        have A9' := (A8.set 9 (.slice A9 ((glv ti cp j).length + 1) k9))
        have R9 := own_set HO8.out (own_ne_at HO8.out A8 (by decide)) 9 (.slice A9 ((glv ti cp j).length + 1) k9)
        have R10 := own_set (own_grown (own_alloc H10.out (.cells #[.int .i64 (j : Int)] 3)) HG8.out (own_ne_own H10.out H9.out (by decide))) (own_ne_at (own_grown (own_alloc H10.out (.cells #[.int .i64 (j : Int)] 3)) HG8.out (own_ne_own H10.out H9.out (by decide))) A8 (by decide)) 9 (.slice A9 ((glv ti cp j).length + 1) k9)
        have hn1 : some w.heap.size ≠ v9.ownBlock := own_ne_at H9.out H1.out (by decide)
        have A1 := (at_grown (H1.out.alloc (.cells #[.int .i64 (j : Int)] 3)) HG8.out hn1).far (p := ⟨b, 9, none⟩) (by have := HBW.out; show w.heap.size ≠ b; omega) (.slice A9 ((glv ti cp j).length + 1) k9)
        have A7 := (at_grown (B7.alloc (.cells #[.int .i64 (j : Int)] 3)) HG8.out (own_ne_at H9.out B7 (by decide))).far (p := ⟨b, 9, none⟩) (by show w4.heap.size ≠ b; exact blk_ne B7.out H2.out.out (by decide)) (.slice A9 ((glv ti cp j).length + 1) k9)
        have HBl := (pw_below_grown (below_alloc HB.out (.cells #[.int .i64 (j : Int)] 3)) _ (by have := HB.out.size; simp; omega) HG8.out (own_ge H9.out)).setCell (p := ⟨b, 9, none⟩) (by have := HBW.out; show w.heap.size ≤ b; omega) (.slice A9 ((glv ti cp j).length + 1) k9)
        have AB9 : At (w8.setCell ⟨b, 9, none⟩ (.slice A9 ((glv ti cp j).length + 1) k9)) b #[.int .i64 hr, .int .i64 gr, .slice A2 cl.length c2, .slice A3 ti.length c3, .slice A4 cp.length c4, .int .i64 tubs, .int .i64 op, .int .i64 clo, .slice A5 qu.length c5, .slice A9 ((glv ti cp j).length + 1) k9, v10] 81 := by simpa using A9'
        clear b8 f8 A8 A9' H1 H2 H9 H10 HB
        generalize w8.setCell ⟨b, 9, none⟩ (.slice A9 ((glv ti cp j).length + 1) k9) = w10 at R9 R10 A1 A7 HBl AB9 ⊢
        clear HO8 HG8 hl5 B7 HB5 HZ5 hn1
        obtain ⟨A10, k10, hv10⟩ := own_form R10
        subst hv10
        refine region_seq [(0, 0), (1, 0), (2, 0), (3, 0), (4, 0), (5, 0), (6, 0), (7, 0), (8, 0), (9, 0), (10, 0), (11, 0), (12, 0), (13, 0), (14, 0), (15, 0), (16, 1), (17, 1), (18, 0), (19, 0), (20, 2)] (fun w' => At w' w.heap.size #[.int .i64 hr, .int .i64 gr, .slice A2 cl.length c2, .slice A3 ti.length c3, .slice A4 cp.length c4, .int .i64 tubs, .int .i64 op, .int .i64 clo, .slice A5 qu.length c5] 48 ∧ At w' b #[.int .i64 hr, .int .i64 gr, .slice A2 cl.length c2, .slice A3 ti.length c3, .slice A4 cp.length c4, .int .i64 tubs, .int .i64 op, .int .i64 clo, .slice A5 qu.length c5, .slice A9 ((glv ti cp j).length + 1) k9, .slice A10 (glv ti cp j).length k10] 81 ∧ At w' w4.heap.size #[.int .i64 fr, .int .i64 fr] 65) (by kernel_rfl) rfl (by kernel_rfl) (by intro _ _ d _ _ h; cases d <;> exact h) ⟨A1.drew, AB9.drew, A7.drew⟩ ?_
        repeat (first | (refine seq_off (a' := ?_) rfl rfl ?_ ?_; rotate_left; (· simp only [List.getElem_toArray, List.getElem_cons_succ, List.getElem_cons_zero, Act.put, List.setIfInBounds_toArray, List.set_cons_zero, List.set_cons_succ, i64_w, i32_w]; rfl)) | (refine seq_read (v := ?_) (a' := ?_) rfl rfl (fun w' hS => ?_) ?_ ?_; rotate_left 2; (· obtain ⟨S1, S9, S7⟩ := hS; have b1 := S1.cl; have b7 := S7.cl; have b9 := S9.cl; go_simp; try with_reducible rfl); (· simp only [List.getElem_toArray, List.getElem_cons_succ, List.getElem_cons_zero, Act.put, List.setIfInBounds_toArray, List.set_cons_zero, List.set_cons_succ, i64_w, i32_w]; rfl)))
        refine seq_do rfl (fun hS => ?_)
        simp only [List.getElem_toArray, List.getElem_cons_succ, List.getElem_cons_zero]
        go_wp2
        refine ⟨⟨hS.1.alloc _, hS.2.1.alloc _, hS.2.2.alloc _⟩, ?_⟩
        refine seq_do rfl (fun hS => ?_)
        simp only [List.getElem_toArray, List.getElem_cons_succ, List.getElem_cons_zero]
        have hbd : Below w10.heap.size w10 (w10.alloc (.cells #[.int .i64 op, .int .i64 op] 53)).drew := (below_alloc (Below.refl _ _) _).drew
        refine wpList_append_own _ rfl (.tmp 45) (.tmp 57) 38 rfl w.heap.size 53 i53 _ 2 16 Try.underlying38 H53.out.1 H53.out.2.1 H53.out.2.2.1 H53.out.2.2.2 rfl (by omega) (.slice A10 (glv ti cp j).length k10) (glv ti cp j).length (flat (fun _ => op) (glv ti cp j).length) rfl (own_below R10 hbd) ⟨w10.heap.size, 0, none⟩ 1 1 [.int .i64 op, .int .i64 op] rfl rfl ?news (by simp [Value.oneCell']) (by unfold maxLen; omega) (by omega) ?base ?_
        case news =>
          intro k u hk
          match k, hk with
          | 0, hk => simp at hk; subst hk; simp [Addr.add, (At.new w10 _ _).drew.cl]
          | 1, hk => simp at hk; subst hk; simp [Addr.add, (At.new w10 _ _).drew.cl]
        case base => have h1 := HBl.size; have h2 := hbd.size; omega
        intro v10' w11 hown hgr _
        obtain ⟨B10, c10, hv⟩ := own_form hown
        subst hv
        have HBn := pw_below_grown (below_then HBl HBl.size hbd) _ (by have h1 := HBl.size; have h2 := hbd.size; omega) hgr (own_ge R10)
        have n1 := own_ne_at (own_below R10 hbd) (A1.below hbd) (by decide)
        have n9 := own_ne_at (own_below R10 hbd) (AB9.below hbd) (by decide)
        have n7 := own_ne_at (own_below R10 hbd) (A7.below hbd) (by decide)
        have C1 := at_grown (A1.below hbd) hgr n1
        have C9 := at_grown (AB9.below hbd) hgr n9
        have C7 := at_grown (A7.below hbd) hgr n7
        have D9 := own_grown (own_below R9 hbd) hgr (own_ne_own (own_below R9 hbd) (own_below R10 hbd) (by decide))
        refine ⟨⟨C1, C9, C7⟩, ?_⟩
        repeat (first | (refine seq_off (a' := ?_) rfl rfl ?_ ?_; rotate_left; (· simp only [List.getElem_toArray, List.getElem_cons_succ, List.getElem_cons_zero, Act.put, List.setIfInBounds_toArray, List.set_cons_zero, List.set_cons_succ, i64_w, i32_w]; rfl)) | (refine seq_read (v := ?_) (a' := ?_) rfl rfl (fun w' hS => ?_) ?_ ?_; rotate_left 2; (· obtain ⟨S1, S9, S7⟩ := hS; have b1 := S1.cl; have b7 := S7.cl; have b9 := S9.cl; go_simp; try with_reducible rfl); (· simp only [List.getElem_toArray, List.getElem_cons_succ, List.getElem_cons_zero, Act.put, List.setIfInBounds_toArray, List.set_cons_zero, List.set_cons_succ, i64_w, i32_w]; rfl)))
        refine seq_last rfl ?_
        simp only [List.getElem_toArray, List.getElem_cons_succ, List.getElem_cons_zero]
        have bb := C9.cl
        have ff := C9.fr
        clear hbd hS A1 AB9 A7 R9 R10 hgr n1 n9 n7
        go_wp2
        refine seq_done ?_
        have E9 := C9.set 10 (.slice B10 ((glv ti cp j).length + 1) c10)
        have E9' : At (w11.setCell ⟨b, 10, none⟩ (.slice B10 ((glv ti cp j).length + 1) c10)) b #[.int .i64 hr, .int .i64 gr, .slice A2 cl.length c2, .slice A3 ti.length c3, .slice A4 cp.length c4, .int .i64 tubs, .int .i64 op, .int .i64 clo, .slice A5 qu.length c5, .slice A9 ((glv ti cp j).length + 1) k9, .slice B10 ((glv ti cp j).length + 1) c10] 81 := by simpa using E9
        have F9 := own_set D9 (own_ne_at D9 C9 (by decide)) 10 (.slice B10 ((glv ti cp j).length + 1) c10)
        have F10 := own_set hown (own_ne_at hown C9 (by decide)) 10 (.slice B10 ((glv ti cp j).length + 1) c10)
        have E1 := C1.far (p := ⟨b, 10, none⟩) (by have := HBW.out; show w.heap.size ≠ b; omega) (.slice B10 ((glv ti cp j).length + 1) c10)
        have HBz := HBn.setCell (p := ⟨b, 10, none⟩) (by have := HBW.out; show w.heap.size ≤ b; omega) (.slice B10 ((glv ti cp j).length + 1) c10)
        have hgn := glv_no ti cp j ho'
        have hlen : (glv ti cp (j + 1)).length = (glv ti cp j).length + 1 := by rw [hgn, List.length_append]; rfl
        have hin : ints (glv ti cp (j + 1)) = ints (glv ti cp j) ++ [.int .i64 (j : Int)] := by rw [hgn]; simp [ints]
        have HQ := Aside0.mk (And.intro hlen hin)
        clear bb ff E9 C1 C9 C7 D9 hown HBn HBl hlen hin hgn
        generalize w11.setCell ⟨b, 10, none⟩ (.slice B10 ((glv ti cp j).length + 1) c10) = w12 at E9' F9 F10 E1 HBz ⊢
        go_wp2
        go_roundg k1
        case measure => omega
        case rel => exact ⟨j + 1, _, _, by go_num, ⟨by have := HK.out; omega⟩, ⟨E1⟩, ⟨E9'⟩, ⟨by rw [HQ.out.1, HQ.out.2]; exact F9⟩, ⟨by rw [HQ.out.1, flat_succ]; exact F10⟩, ⟨HBz⟩⟩
    · have hj : j = tubs.toNat := by have := HK.out; omega
      subst hj
      have bb := H2.out.cl
      obtain ⟨Av, cv, hv⟩ := own_form H9.out
      subst hv
      by_cases hg : glv ti cp tubs.toNat = []
      · have hlen : (glv ti cp tubs.toNat).length = 0 := by rw [hg]; rfl
        have HG := Aside0.mk hg
        clear hg
        go_wp2
        go_ret2
        exact And.intro HB.out (Or.inl (And.intro HG.out rfl))
      · have hlen : (((glv ti cp tubs.toNat).length : Int) == 0) = false := by
          have : (glv ti cp tubs.toNat).length ≠ 0 := fun h => hg (List.eq_nil_of_length_eq_zero h)
          simpa using this
        have HG := Aside0.mk hg
        clear hg
        go_wp2
        go_ret2
        exact And.intro HB.out (Or.inr (And.intro HG.out ⟨b, rfl, _, v10, ⟨H2.out, H9.out, H10.out⟩⟩))
end

end Go.Proofs.Ytgdbnioodimlfaa.Wk
