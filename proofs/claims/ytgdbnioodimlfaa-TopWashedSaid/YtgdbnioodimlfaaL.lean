/- The contracts of open, Free and Clash, for a house with one truth. Conditions stand in each theorem. -/
import Derived.Test.YtgdbnioodimlfaaSeq
import Derived.Test.YtgdbnioodimlfaaK
import Derived.Test.YtgdbnioodimlfaaPTopWashedx6
namespace Go.Proofs.Ytgdbnioodimlfaa.Wk
open Go.RowKit Go.Proofs.YtgdbnioodimlfaaW.PrintWords Go.Proofs.YtgdbnioodimlfaaW.PrintLast Go.Proofs.YtgdbnioodimlfaaW.PrintMore Go.Proofs.Ytgdbnioodimlfaa.PTopWashed Go.Proofs.Ytgdbnioodimlfaa.Sq
attribute [local go_sem] max2_int min2_int max_two min_two max_three min_three max_four min_four
set_option linter.unusedVariables false
set_option linter.unusedSimpArgs false

section
variable {A2 : Option Addr} {c2 : Nat} {A3 : Option Addr} {c3 : Nat} {A4 : Option Addr} {c4 : Nat} {cl : List S65} {ti : List S73} {cp : List S74}
theorem wp_new3 {P : Program} {Q : Exit → Act → World → Prop} {cd : Code} {a : Act} {w : World} {cs cs2 cs3 : Array Value} {t t2 t3 : TypeId}
    (h : ∀ w1, At w1 w.heap.size cs t → At w1 (w.heap.size + 1) cs2 t2 → At w1 (w.heap.size + 1 + 1) cs3 t3 → Aside0 (Below w.heap.size w w1) → Aside0 (w1.heap.size = w.heap.size + 3) → cd.wp P Q a w1) :
    cd.wp P Q a (((w.alloc (.cells cs t)).alloc (.cells cs2 t2)).alloc (.cells cs3 t3)) :=
  h _ (((At.new w cs t).alloc _).alloc _) (At.alloc (by simpa using At.new (w.alloc (.cells cs t)) cs2 t2) _) (by simpa using At.new ((w.alloc (.cells cs t)).alloc (.cells cs2 t2)) cs3 t3) ⟨below_alloc (below_alloc (below_alloc (Below.refl _ _) _) _) _⟩ ⟨by simp⟩
/-- Whether a ticket of a tub has just one clip. -/
def opnF (ti : List S73) (cp : List S74) (tub : Int) (i : Nat) : Bool := decide ((g73 ti i).f0 = tub) && decide ((ofL cp (i : Int)).length = 1)
def opn (ti : List S73) (cp : List S74) (tub : Int) : Bool := (List.range' 0 ti.length).any (opnF ti cp tub)
theorem of_fk (hr gr : Int) (cl : List S65) (ti : List S73) (cp : List S74) (i : Int) (k : Nat) (h : cp.length ≤ 1000) (hk : cp.length < k) : ticket_House_of.f k hr gr cl ti cp i = some (ofL cp i) := by
  unfold ticket_House_of.f
  have := of_l0 cp i h cp.length 0 k [] (by omega) (by omega) (by simp)
  simpa using this
theorem rd73 (ti : List S73) (j : Nat) : rd_T73 ti (j : Int) = g73 ti j := rfl
theorem opn_l0 (hr gr : Int) (cl : List S65) (ti : List S73) (cp : List S74) (tub : Int) (h : cp.length ≤ 1000) (h3 : ti.length ≤ 1000) : ∀ (d j k : Nat), j + d = ti.length → d + cp.length + 1 < k →
    ticket_House_open.l0 k tub ti (ti.length : Int) (j : Int) hr gr cl ti cp = some ((List.range' j d).any (opnF ti cp tub)) := by
  intro d
  induction d with
  | zero =>
    intro j k hj hk
    obtain ⟨k, rfl⟩ : ∃ m, k = m + 1 := ⟨k - 1, by omega⟩
    simp only [ticket_House_open.l0]
    rw [if_neg (by omega)]
    rfl
  | succ d ih =>
    intro j k hj hk
    obtain ⟨k, rfl⟩ : ∃ m, k = m + 1 := ⟨k - 1, by omega⟩
    have hw : wrap64 ((j : Int) + 1) = ((j + 1 : Nat) : Int) := by rw [w64 (by omega) (by omega)]; omega
    simp only [ticket_House_open.l0]
    rw [if_pos (by omega), if_pos (by omega), if_pos (by omega), hw, rd73, ih (j + 1) k (by omega) (by omega), of_fk hr gr cl ti cp j k h (by omega), List.range'_succ, List.any_cons]
    by_cases e1 : (g73 ti j).f0 = tub
    · rw [if_pos e1, Option.bind_some]
      by_cases e2 : ((ofL cp (j : Int)).length : Int) = 1
      · rw [if_pos e2]
        have : opnF ti cp tub j = true := by simp [opnF, e1]; omega
        rw [this, Bool.true_or]
      · rw [if_neg e2]
        have : opnF ti cp tub j = false := by simp [opnF, e1]; omega
        rw [this, Bool.false_or]
    · rw [if_neg e1]
      have : opnF ti cp tub j = false := by simp [opnF, e1]
      rw [this, Bool.false_or]
theorem open_calls (hr gr tub : Int) (w : World) (H : HouseIn w A2 c2 A3 c3 A4 c4 cl ti cp) (h : cp.length ≤ 1000) (h3 : ti.length ≤ 1000) :
    Calls Try.prog 37 #[.agg #[.int .i64 hr, .int .i64 gr, .slice A2 cl.length c2, .slice A3 ti.length c3, .slice A4 cp.length c4], .int .i64 tub] w fun e w' => e = .returned (.bool (opn ti cp tub)) ∧ Below w.heap.size w w' := by
  refine (ticket_House_open.calls (ti.length + cp.length + 2) hr gr A2 c2 cl A3 c3 ti A4 c4 cp tub (opn ti cp tub) w H.r2 H.m2 H.r3 H.m3 H.r4 H.m4 ?_).mono ?_
  · unfold ticket_House_open.f
    exact opn_l0 hr gr cl ti cp tub h h3 ti.length 0 _ (by omega) (by omega)
  · rintro e w' h
    exact h

set_option maxHeartbeats 1000000 in
theorem Free_calls (e0 e1 e2 e3 hr gr tub : Int) (w : World) (H : HouseIn w A2 c2 A3 c3 A4 c4 cl ti cp) (T : Tr e0 e1 e2 e3 hr gr cl ti cp) (h0 : 0 ≤ tub) (h8 : tub ≤ 8) (ho : opn ti cp tub = false) :
    Calls Try.prog 16 #[.agg #[.int .i64 hr, .int .i64 gr, .slice A2 cl.length c2, .slice A3 ti.length c3, .slice A4 cp.length c4], .int .i64 tub] w fun e w' => e = .returned (.tuple #[.agg #[.int .i64 (frmK e0 e1 e2 e3 ti cp tub ti.length), .int .i64 (frmK e0 e1 e2 e3 ti cp tub ti.length)], .int .i64 0]) ∧ Below w.heap.size w w' := by
  have HI := Aside0.mk H
  have HT := Aside0.mk T
  have HO := Aside0.mk ho
  clear H T ho
  go_enter Try.func16, Try.ntmps16
  go_upto_region 1 with fail
  refine wp_new2 fun w1 B1 B2 HB HZ => ?_
  have b1 := B1.cl
  go_wp2_with (first
    | (go_at_call 36; refine (tub_calls tub _ h0 h8).mono ?_; rintro e w2 ⟨rfl, rfl⟩)
    | (go_at_call 37; refine (open_calls hr gr tub _ (HI.out.below HB.out) (by have := HT.out.O.n4; omega) (by have := HT.out.O.n3; omega)).mono ?_; intro e w2 h; rw [HO.out] at h; obtain ⟨rfl, hb⟩ := h; replace B1 := B1.below hb; replace B2 := B2.below hb; replace HB := Aside0.mk (below_step HB.out hb); clear b1 hb; have b1 := B1.cl)
    | (go_at_call 32; refine (asked_calls hr gr e0 e1 e2 e3 _ (HI.out.below HB.out) HT.out.O HT.out.S HT.out.es HT.out.ez HT.out.R).mono ?_; rintro e w3 ⟨b, rfl, hW, hb⟩; have HWW := Aside0.mk hW; replace B1 := B1.below hb; replace B2 := B2.below hb; replace HB := Aside0.mk (below_step HB.out hb); clear b1 hb hW)
    | (go_at_call 34; refine (bounds_calls 38 b tub (frmK e0 e1 e2 e3 ti cp tub ti.length) _ hr gr e0 e1 e2 e3 _ rfl HWW.out (fun W' hW => from_calls hr gr e0 e1 e2 e3 tub b W' (HI.out.below (below_then HB.out HB.out.size hW)) HT.out.O HT.out.S (HWW.out.below hW)) (fun args w => call_enter Try.func38 (by kernel_rfl) rfl args w)).mono ?_; rintro e w4 ⟨rfl, hb⟩; replace B2 := B2.below hb; replace HB := Aside0.mk (below_step HB.out hb); clear hb B1; have b2 := B2.cl; have f2 := B2.fr))
  have B4 := (B2.set 0 (.int .i64 (frmK e0 e1 e2 e3 ti cp tub ti.length))).set 1 (.int .i64 (frmK e0 e1 e2 e3 ti cp tub ti.length))
  refine bodyPost_ret (results_ct rfl _ _ (w.heap.size + 1) 65 #[.int .i64 (frmK e0 e1 e2 e3 ti cp tub ti.length), .int .i64 (frmK e0 e1 e2 e3 ti cp tub ti.length)] (0, 0) _ rfl (by simpa using B4.out) Try.underlying65 rfl (by kernel_rfl)) rfl ?_
  exact ⟨rfl, (HB.out.setCell (p := ⟨w.heap.size + 1, 0, none⟩) (by show w.heap.size ≤ w.heap.size + 1; omega) _).setCell (p := ⟨w.heap.size + 1, 1, none⟩) (by show w.heap.size ≤ w.heap.size + 1; omega) _⟩

set_option maxHeartbeats 1000000 in
theorem FreeOpen_calls (e0 e1 e2 e3 hr gr tub : Int) (w : World) (H : HouseIn w A2 c2 A3 c3 A4 c4 cl ti cp) (T : Tr e0 e1 e2 e3 hr gr cl ti cp) (h0 : 0 ≤ tub) (h8 : tub ≤ 8) (ho : opn ti cp tub = true) :
    Calls Try.prog 16 #[.agg #[.int .i64 hr, .int .i64 gr, .slice A2 cl.length c2, .slice A3 ti.length c3, .slice A4 cp.length c4], .int .i64 tub] w fun e w' => e = .returned (.tuple #[.agg #[.int .i64 0, .int .i64 0], .int .i64 8]) ∧ Below w.heap.size w w' := by
  have HI := Aside0.mk H
  have HT := Aside0.mk T
  have HO := Aside0.mk ho
  clear H T ho
  go_enter Try.func16, Try.ntmps16
  go_upto_region 1 with fail
  refine wp_new2 fun w1 B1 B2 HB HZ => ?_
  have b1 := B1.cl
  go_wp2_with (first
    | (go_at_call 36; refine (tub_calls tub _ h0 h8).mono ?_; rintro e w2 ⟨rfl, rfl⟩)
    | (go_at_call 37; refine (open_calls hr gr tub _ (HI.out.below HB.out) (by have := HT.out.O.n4; omega) (by have := HT.out.O.n3; omega)).mono ?_; intro e w2 h; rw [HO.out] at h; obtain ⟨rfl, hb⟩ := h; replace B1 := B1.below hb; replace B2 := B2.below hb; replace HB := Aside0.mk (below_step HB.out hb); clear b1 hb; have b1 := B1.cl)
    | (go_at_call 32; refine (askedDue_calls e0 e1 e2 e3 hr gr 8 _ (HI.out.below HB.out) HT.out (by omega)).mono ?_; rintro e w3 ⟨rfl, hb⟩; replace B2 := B2.below hb; replace HB := Aside0.mk (below_step HB.out hb); clear b1 hb B1; have b2 := B2.cl; have f2 := B2.fr))
  have B4 := (B2.set 0 (.int .i64 0)).set 1 (.int .i64 0)
  refine bodyPost_ret (results_ct rfl _ _ (w.heap.size + 1) 65 #[.int .i64 0, .int .i64 0] (0, 0) _ rfl (by simpa using B4.out) Try.underlying65 rfl (by kernel_rfl)) rfl ?_
  exact ⟨rfl, (HB.out.setCell (p := ⟨w.heap.size + 1, 0, none⟩) (by show w.heap.size ≤ w.heap.size + 1; omega) _).setCell (p := ⟨w.heap.size + 1, 1, none⟩) (by show w.heap.size ≤ w.heap.size + 1; omega) _⟩

set_option maxHeartbeats 1000000 in
theorem Clash_calls (e0 e1 e2 e3 hr gr : Int) (i j : Nat) (w : World) (H : HouseIn w A2 c2 A3 c3 A4 c4 cl ti cp) (T : Tr e0 e1 e2 e3 hr gr cl ti cp) (hi : i < ti.length) (hj : j < ti.length) (hne : i ≠ j) (hap : Apart e0 e1 e2 e3 ti cp i j) :
    Calls Try.prog 17 #[.agg #[.int .i64 hr, .int .i64 gr, .slice A2 cl.length c2, .slice A3 ti.length c3, .slice A4 cp.length c4], .int .i64 (i : Int), .int .i64 (j : Int)] w fun e w' => e = .returned (.tuple #[.int .i64 2, .int .i64 0]) ∧ Below w.heap.size w w' := by
  have HI := Aside0.mk H
  have HT := Aside0.mk T
  have HP := Aside0.mk hap
  have q1 : ((i : Int) == (j : Int)) = false := by simp; omega
  clear H T hap
  have hn3 : ti.length ≤ 1000 := by have := HT.out.O.n3; omega
  go_enter Try.func17, Try.ntmps17
  go_upto_region 1 with fail
  refine wp_new3 fun w1 B1 B2 B3 HB HZ => ?_
  have b1 := B1.cl
  have b2 := B2.cl
  have b3 := B3.cl
  have hz := HZ.out
  go_upto_region 9 with (first
    | (go_at_call 39; refine (ticket_calls hr gr _ _ _ A3 ti.length c3 _ rfl rfl (by omega) (by omega) hn3).mono ?_; rintro e w2 ⟨rfl, hb⟩; replace B1 := B1.below hb; replace B2 := B2.below hb; replace B3 := B3.below hb; replace HB := Aside0.mk (below_step HB.out hb); clear b1 b2 b3 hb; have b1 := B1.cl; have b2 := B2.cl; have b3 := B3.cl)
    | (go_at_call 32; refine (asked_calls hr gr e0 e1 e2 e3 _ (HI.out.below HB.out) HT.out.O HT.out.S HT.out.es HT.out.ez HT.out.R).mono ?_; rintro e w3 ⟨b, rfl, hW, hb⟩; have HWW := Aside0.mk hW; replace B1 := B1.below hb; replace B2 := B2.below hb; replace B3 := B3.below hb; replace HB := Aside0.mk (below_step HB.out hb); clear b1 b2 b3 hb hW; have hl2 := B2.lt; have hl3 := B3.lt))
  refine wp_new1 fun w5 B5 HB5 HZ5 => ?_
  replace HWW := Aside0.mk (HWW.out.below HB5.out)
  replace B2 := B2.below HB5.out
  replace B3 := B3.below HB5.out
  replace HB := Aside0.mk (below_step HB.out HB5.out)
  have b5 := B5.cl
  have hlit : ∀ W', Below w5.heap.size w5 W' → Calls Try.prog 41 (#[.agg #[.int .i64 e0, .int .i64 e1, .int .i64 e2, .int .i64 e3]] ++ #[.pointer (some ⟨w3.heap.size, 0, none⟩), .pointer (some ⟨w.heap.size + 1, 0, none⟩), .pointer (some ⟨w.heap.size + 1 + 1, 0, none⟩)]) W' fun e w' => e = .returned (.bool false) ∧ Below W'.heap.size W' w' := fun W' hW =>
    lit_calls hr gr e0 e1 e2 e3 b i j w3.heap.size (w.heap.size + 1) (w.heap.size + 1 + 1) W' (HI.out.below (below_then HB.out HB.out.size hW)) HT.out.O HT.out.S (HWW.out.below hW) hi hj HP.out (((B5.below hW).cl 0).trans rfl) (((B2.below hW).cl 0).trans rfl) (((B3.below hW).cl 0).trans rfl)
  have HL := Aside0.mk hlit
  clear hlit
  go_wp2_with (go_at_call 40; refine (verdict_calls b #[.pointer (some ⟨w3.heap.size, 0, none⟩), .pointer (some ⟨w.heap.size + 1, 0, none⟩), .pointer (some ⟨w.heap.size + 1 + 1, 0, none⟩)] _ hr gr e0 e1 e2 e3 _ rfl HWW.out HL.out).mono ?_; rintro e w4 ⟨rfl, hb⟩; replace HB := Aside0.mk (below_step HB.out hb))
  go_ret2
  exact ⟨rfl, HB.out⟩
end

end Go.Proofs.Ytgdbnioodimlfaa.Wk
