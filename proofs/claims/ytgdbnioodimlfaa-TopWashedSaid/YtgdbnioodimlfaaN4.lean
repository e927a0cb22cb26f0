/- The contract of CheckFloor on a valid floor whose house has one truth. Conditions stand in each theorem. -/
import Derived.Test.YtgdbnioodimlfaaSeq
import Derived.Test.YtgdbnioodimlfaaN3
namespace Go.Proofs.Ytgdbnioodimlfaa.Wk
open Go.RowKit Go.Proofs.YtgdbnioodimlfaaW.PrintWords Go.Proofs.YtgdbnioodimlfaaW.PrintLast Go.Proofs.YtgdbnioodimlfaaW.PrintMore Go.Proofs.Ytgdbnioodimlfaa.PTopWashed Go.Proofs.Ytgdbnioodimlfaa.Sq
attribute [local go_sem] max2_int min2_int max_two min_two max_three min_three max_four min_four
set_option linter.unusedVariables false
set_option linter.unusedSimpArgs false

section
variable {A2 : Option Addr} {c2 : Nat} {A3 : Option Addr} {c3 : Nat} {A4 : Option Addr} {c4 : Nat} {cl : List S65} {ti : List S73} {cp : List S74} {A5 : Option Addr} {c5 : Nat} {qu : List S53}
/-- A valid floor whose clocks are each wrong by one known number, and that opens after all clips. -/
structure Flo (e0 e1 e2 e3 hr gr : Int) (cl : List S65) (ti : List S73) (cp : List S74) (tubs op clo : Int) (qu : List S53) : Prop where
  T : Tr e0 e1 e2 e3 hr gr cl ti cp
  t1 : 1 ≤ tubs
  t4 : tubs ≤ 4
  q5 : qu.length ≤ 5
  o0 : 0 ≤ op
  oc : op ≤ clo
  c1 : clo ≤ 1439
  qv : ∀ x ∈ qu, 0 ≤ x.f0 ∧ x.f0 ≤ x.f1 ∧ x.f1 ≤ 240
  fr : ∀ n, frmK e0 e1 e2 e3 ti cp n ti.length ≤ op
/-- A floor in memory. -/
structure FloIn (w : World) (A2 : Option Addr) (c2 : Nat) (A3 : Option Addr) (c3 : Nat) (A4 : Option Addr) (c4 : Nat) (cl : List S65) (ti : List S73) (cp : List S74) (A5 : Option Addr) (c5 : Nat) (qu : List S53) : Prop where
  h : HouseIn w A2 c2 A3 c3 A4 c4 cl ti cp
  r5 : Kd.C k53 w A5 qu.length qu
  m5 : qu.length ≤ c5
theorem FloIn.below {w w1 : World} (h : FloIn w A2 c2 A3 c3 A4 c4 cl ti cp A5 c5 qu) (hb : Below w.heap.size w w1) : FloIn w1 A2 c2 A3 c3 A4 c4 cl ti cp A5 c5 qu := ⟨h.h.below hb, Kd.C_below h.r5 hb, h.m5⟩

set_option maxHeartbeats 1000000 in
theorem CheckFloor_calls (e0 e1 e2 e3 hr gr tubs op clo : Int) (w : World) (H : FloIn w A2 c2 A3 c3 A4 c4 cl ti cp A5 c5 qu) (F : Flo e0 e1 e2 e3 hr gr cl ti cp tubs op clo qu) :
    Calls Try.prog 44 #[.agg #[.int .i64 hr, .int .i64 gr, .slice A2 cl.length c2, .slice A3 ti.length c3, .slice A4 cp.length c4, .int .i64 tubs, .int .i64 op, .int .i64 clo, .slice A5 qu.length c5]] w fun e w' => e = .returned (.int .i64 0) ∧ Below w.heap.size w w' := by
  have HI := Aside0.mk H
  have HF := Aside0.mk F
  clear H F
  have d1 : decide ((4 : Int) < tubs) = false := by have := HF.out.t4; simp; omega
  have d2 : decide ((5 : Int) < (qu.length : Int)) = false := by have := HF.out.q5; simp; omega
  have d3 : decide (tubs < 1) = false := by have := HF.out.t1; simp; omega
  have d4 : decide ((1439 : Int) < clo) = false := by have := HF.out.c1; simp; omega
  go_enter Try.func44, Try.ntmps44
  go_wp2_with (first
    | (go_at_call 56; refine (Clocks_calls e0 e1 e2 e3 hr gr _ (HI.out.below (below_alloc (Below.refl _ _) _)).h HF.out.T).mono ?_; rintro e w2 ⟨v, rfl, _, hb⟩; obtain ⟨B1, HB⟩ := one_new hb; clear hb; have b1 := B1.cl)
    | (go_at_call 46; refine (within46_calls op 0 clo _ HF.out.o0 HF.out.oc).mono ?_; rintro e w3 ⟨rfl, rfl⟩)
    | (go_at_call 58; refine (all58_calls qu A5 c5 _ (HI.out.below HB.out).r5 (by have := HF.out.q5; omega) (fun x hx W hW => washes_calls _ _ _ (HF.out.qv x hx).1 (HF.out.qv x hx).2.1 (HF.out.qv x hx).2.2)).mono ?_; rintro e w4 ⟨rfl, hb⟩; replace HB := Aside0.mk (below_step HB.out hb); clear b1 hb))
  go_ret
  exact ⟨rfl, HB.out⟩
end

end Go.Proofs.Ytgdbnioodimlfaa.Wk
