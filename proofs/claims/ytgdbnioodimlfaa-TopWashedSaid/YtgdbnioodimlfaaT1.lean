/- TopWashed where its guards do not hold. Conditions stand in each theorem. -/
import Derived.Test.YtgdbnioodimlfaaSeq
import Derived.Test.YtgdbnioodimlfaaP5
import Derived.Test.YtgdbnioodimlfaaR2
namespace Go.Proofs.Ytgdbnioodimlfaa.Wk
open Go.RowKit Go.Proofs.YtgdbnioodimlfaaW.PrintWords Go.Proofs.YtgdbnioodimlfaaW.PrintLast Go.Proofs.YtgdbnioodimlfaaW.PrintMore Go.Proofs.Ytgdbnioodimlfaa.PTopWashed Go.Proofs.Ytgdbnioodimlfaa.Sq
attribute [local go_sem] max2_int min2_int max_two min_two max_three min_three max_four min_four
set_option linter.unusedVariables false
set_option linter.unusedSimpArgs false

/-- The argument of TopWashed in memory. -/
structure RefIn (w : World) (A2 : Option Addr) (c2 : Nat) (kl : List S54) (A3 : Option Addr) (c3 : Nat) (kt : List S58) (A4 : Option Addr) (c4 : Nat) (kc : List S60) (A5 : Option Addr) (c5 : Nat) (kq : List S54) : Prop where
  r2 : Kd.C k54 w A2 kl.length kl
  m2 : kl.length ≤ c2
  r3 : Kd.C k58 w A3 kt.length kt
  m3 : kt.length ≤ c3
  r4 : Kd.C k60 w A4 kc.length kc
  m4 : kc.length ≤ c4
  r5 : Kd.C k54 w A5 kq.length kq
  m5 : kq.length ≤ c5
set_option maxRecDepth 20000 in
set_option maxHeartbeats 4000000 in
theorem topNot_calls (hr gr : Int) (A2 : Option Addr) (c2 : Nat) (kl : List S54) (A3 : Option Addr) (c3 : Nat) (kt : List S58) (A4 : Option Addr) (c4 : Nat) (kc : List S60) (tubs op clo : Int) (A5 : Option Addr) (c5 : Nat) (kq : List S54) (x z : Int) (w : World) (I : RefIn w A2 c2 kl A3 c3 kt A4 c4 kc A5 c5 kq) (kk : Nat) (b : Bool) (hb : posserlaw07_Thin.f kk hr gr kl kt kc tubs op clo kq = some b) (r : Int) (hrr : posserref07_Fault.f kk hr gr kl kt kc tubs op clo kq = some r)
    (hn : ¬ (b = true ∧ r = 0 ∧ kq.length ≠ 0 ∧ kl.length ≠ 0)) : Calls Try.prog 3 #[.agg #[.int .i64 hr, .int .i64 gr, .slice A2 kl.length c2, .slice A3 kt.length c3, .slice A4 kc.length c4, .int .i64 tubs, .int .i64 op, .int .i64 clo, .slice A5 kq.length c5], .int .u16 x, .int .u8 z] w fun e w' => e = .returned (.bool true) ∧ Below w.heap.size w w' := by
  have HI := Aside0.mk I
  have HTH := Aside0.mk hb
  have HFT := Aside0.mk hrr
  clear I hb hrr
  cases b with
  | false =>
    clear hn
    go_enter Try.func3, Try.ntmps3
    go_upto_region 1 with fail
    refine wp_new1 fun w1 B1 HB HZ => ?_
    have b1 := B1.cl
    go_wp2_with (first | (go_at_call 4; refine (posserlaw07_Thin.calls kk hr gr A2 c2 kl A3 c3 kt A4 c4 kc tubs op clo A5 c5 kq _ _ (Kd.C_below HI.out.r2 HB.out) HI.out.m2 (Kd.C_below HI.out.r3 HB.out) HI.out.m3 (Kd.C_below HI.out.r4 HB.out) HI.out.m4 (Kd.C_below HI.out.r5 HB.out) HI.out.m5 HTH.out).mono ?_; rintro e w2 ⟨rfl, hb⟩; replace B1 := B1.below hb; replace HB := Aside0.mk (below_step HB.out hb); clear hb b1; have b1 := B1.cl) | (go_at_call 5; refine (posserref07_Fault.calls kk hr gr A2 c2 kl A3 c3 kt A4 c4 kc tubs op clo A5 c5 kq _ _ (Kd.C_below HI.out.r2 HB.out) HI.out.m2 (Kd.C_below HI.out.r3 HB.out) HI.out.m3 (Kd.C_below HI.out.r4 HB.out) HI.out.m4 (Kd.C_below HI.out.r5 HB.out) HI.out.m5 HFT.out).mono ?_; rintro e w3 ⟨rfl, hb⟩; replace B1 := B1.below hb; replace HB := Aside0.mk (below_step HB.out hb); clear hb b1; have b1 := B1.cl; have hq := HQ.out) | (go_at_call 6; refine (washed_calls _).mono ?_; rintro e w4 ⟨rfl, hb⟩; replace HB := Aside0.mk (below_step HB.out hb); clear hb B1 b1))
    go_ret
    exact ⟨rfl, HB.out⟩
  | true =>
    by_cases h1 : r = 0
    · by_cases h2 : kq.length = 0
      · subst h1
        have HQ := Aside0.mk (show ((kq.length : Int) == 0) = true from by simp [h2])
        clear hn h2
        go_enter Try.func3, Try.ntmps3
        go_upto_region 1 with fail
        refine wp_new1 fun w1 B1 HB HZ => ?_
        have b1 := B1.cl
        go_wp2_with (first | (go_at_call 4; refine (posserlaw07_Thin.calls kk hr gr A2 c2 kl A3 c3 kt A4 c4 kc tubs op clo A5 c5 kq _ _ (Kd.C_below HI.out.r2 HB.out) HI.out.m2 (Kd.C_below HI.out.r3 HB.out) HI.out.m3 (Kd.C_below HI.out.r4 HB.out) HI.out.m4 (Kd.C_below HI.out.r5 HB.out) HI.out.m5 HTH.out).mono ?_; rintro e w2 ⟨rfl, hb⟩; replace B1 := B1.below hb; replace HB := Aside0.mk (below_step HB.out hb); clear hb b1; have b1 := B1.cl) | (go_at_call 5; refine (posserref07_Fault.calls kk hr gr A2 c2 kl A3 c3 kt A4 c4 kc tubs op clo A5 c5 kq _ _ (Kd.C_below HI.out.r2 HB.out) HI.out.m2 (Kd.C_below HI.out.r3 HB.out) HI.out.m3 (Kd.C_below HI.out.r4 HB.out) HI.out.m4 (Kd.C_below HI.out.r5 HB.out) HI.out.m5 HFT.out).mono ?_; rintro e w3 ⟨rfl, hb⟩; replace B1 := B1.below hb; replace HB := Aside0.mk (below_step HB.out hb); clear hb b1; have b1 := B1.cl; have hq := HQ.out) | (go_at_call 6; refine (washed_calls _).mono ?_; rintro e w4 ⟨rfl, hb⟩; replace HB := Aside0.mk (below_step HB.out hb); clear hb B1 b1))
        go_ret
        exact ⟨rfl, HB.out⟩
      · have h4 : kl.length = 0 := Classical.byContradiction fun h => hn ⟨rfl, h1, h2, h⟩
        subst h1
        have HQ := Aside0.mk (And.intro (show ((kq.length : Int) == 0) = false from by rw [beq_eq_false_iff_ne]; omega) (show ((kl.length : Int) == 0) = true from by simp [h4]))
        clear hn h2 h4
        go_enter Try.func3, Try.ntmps3
        go_upto_region 1 with fail
        refine wp_new1 fun w1 B1 HB HZ => ?_
        have b1 := B1.cl
        go_wp2_with (first | (go_at_call 4; refine (posserlaw07_Thin.calls kk hr gr A2 c2 kl A3 c3 kt A4 c4 kc tubs op clo A5 c5 kq _ _ (Kd.C_below HI.out.r2 HB.out) HI.out.m2 (Kd.C_below HI.out.r3 HB.out) HI.out.m3 (Kd.C_below HI.out.r4 HB.out) HI.out.m4 (Kd.C_below HI.out.r5 HB.out) HI.out.m5 HTH.out).mono ?_; rintro e w2 ⟨rfl, hb⟩; replace B1 := B1.below hb; replace HB := Aside0.mk (below_step HB.out hb); clear hb b1; have b1 := B1.cl) | (go_at_call 5; refine (posserref07_Fault.calls kk hr gr A2 c2 kl A3 c3 kt A4 c4 kc tubs op clo A5 c5 kq _ _ (Kd.C_below HI.out.r2 HB.out) HI.out.m2 (Kd.C_below HI.out.r3 HB.out) HI.out.m3 (Kd.C_below HI.out.r4 HB.out) HI.out.m4 (Kd.C_below HI.out.r5 HB.out) HI.out.m5 HFT.out).mono ?_; rintro e w3 ⟨rfl, hb⟩; replace B1 := B1.below hb; replace HB := Aside0.mk (below_step HB.out hb); clear hb b1; have b1 := B1.cl; have hq := HQ.out) | (go_at_call 6; refine (washed_calls _).mono ?_; rintro e w4 ⟨rfl, hb⟩; replace HB := Aside0.mk (below_step HB.out hb); clear hb B1 b1))
        go_ret
        exact ⟨rfl, HB.out⟩
    · have HQ := Aside0.mk (show (r != 0) = true from by simpa using h1)
      clear hn h1
      go_enter Try.func3, Try.ntmps3
      go_upto_region 1 with fail
      refine wp_new1 fun w1 B1 HB HZ => ?_
      have b1 := B1.cl
      go_wp2_with (first | (go_at_call 4; refine (posserlaw07_Thin.calls kk hr gr A2 c2 kl A3 c3 kt A4 c4 kc tubs op clo A5 c5 kq _ _ (Kd.C_below HI.out.r2 HB.out) HI.out.m2 (Kd.C_below HI.out.r3 HB.out) HI.out.m3 (Kd.C_below HI.out.r4 HB.out) HI.out.m4 (Kd.C_below HI.out.r5 HB.out) HI.out.m5 HTH.out).mono ?_; rintro e w2 ⟨rfl, hb⟩; replace B1 := B1.below hb; replace HB := Aside0.mk (below_step HB.out hb); clear hb b1; have b1 := B1.cl) | (go_at_call 5; refine (posserref07_Fault.calls kk hr gr A2 c2 kl A3 c3 kt A4 c4 kc tubs op clo A5 c5 kq _ _ (Kd.C_below HI.out.r2 HB.out) HI.out.m2 (Kd.C_below HI.out.r3 HB.out) HI.out.m3 (Kd.C_below HI.out.r4 HB.out) HI.out.m4 (Kd.C_below HI.out.r5 HB.out) HI.out.m5 HFT.out).mono ?_; rintro e w3 ⟨rfl, hb⟩; replace B1 := B1.below hb; replace HB := Aside0.mk (below_step HB.out hb); clear hb b1; have b1 := B1.cl; have hq := HQ.out) | (go_at_call 6; refine (washed_calls _).mono ?_; rintro e w4 ⟨rfl, hb⟩; replace HB := Aside0.mk (below_step HB.out hb); clear hb B1 b1))
      go_ret
      exact ⟨rfl, HB.out⟩

end Go.Proofs.Ytgdbnioodimlfaa.Wk
