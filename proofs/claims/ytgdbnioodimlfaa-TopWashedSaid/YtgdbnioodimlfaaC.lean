/- The contracts of rising (on clips whose true minutes do not fall), and of lists. Conditions stand in each theorem. -/
import Derived.Test.YtgdbnioodimlfaaSeq
import Derived.Test.YtgdbnioodimlfaaB2
namespace Go.Proofs.Ytgdbnioodimlfaa.Wk
open Go.RowKit Go.Proofs.YtgdbnioodimlfaaW.PrintWords Go.Proofs.YtgdbnioodimlfaaW.PrintLast Go.Proofs.YtgdbnioodimlfaaW.PrintMore Go.Proofs.Ytgdbnioodimlfaa.PTopWashed Go.Proofs.Ytgdbnioodimlfaa.Sq
attribute [local go_sem] max2_int min2_int max_two min_two max_three min_three max_four min_four
set_option linter.unusedVariables false
set_option linter.unusedSimpArgs false

section
variable {A2 : Option Addr} {c2 : Nat} {A3 : Option Addr} {c3 : Nat} {A4 : Option Addr} {c4 : Nat} {cl : List S65} {ti : List S73} {cp : List S74}
/-- The true minute of a clip. -/
def tm (e0 e1 e2 e3 : Int) (x : S74) : Int := x.f2 - sel4 e0 e1 e2 e3 x.f1
theorem sel4_bd {e0 e1 e2 e3 : Int} (h0 : -30 ≤ e0 ∧ e0 ≤ 30) (h1 : -30 ≤ e1 ∧ e1 ≤ 30) (h2 : -30 ≤ e2 ∧ e2 ≤ 30) (h3 : -30 ≤ e3 ∧ e3 ≤ 30) (i : Int) : -30 ≤ sel4 e0 e1 e2 e3 i ∧ sel4 e0 e1 e2 e3 i ≤ 30 := by
  unfold sel4
  match i.toNat with
  | 0 => exact h0
  | 1 => exact h1
  | 2 => exact h2
  | 3 => exact h3
  | n + 4 => simp
/-- Bounded errors of four clocks. -/
structure Small (e0 e1 e2 e3 : Int) : Prop where
  b0 : -30 ≤ e0 ∧ e0 ≤ 30
  b1 : -30 ≤ e1 ∧ e1 ≤ 30
  b2 : -30 ≤ e2 ∧ e2 ≤ 30
  b3 : -30 ≤ e3 ∧ e3 ≤ 30
theorem Small.sel {e0 e1 e2 e3 : Int} (h : Small e0 e1 e2 e3) (i : Int) : -30 ≤ sel4 e0 e1 e2 e3 i ∧ sel4 e0 e1 e2 e3 i ≤ 30 := sel4_bd h.b0 h.b1 h.b2 h.b3 i
theorem minuteT_calls (e0 e1 e2 e3 : Int) (x : S74) (w : World) (hS : Small e0 e1 e2 e3) (h0 : 0 ≤ x.f1) (h1 : x.f1 < 4) (h2 : 0 ≤ x.f2) (h3 : x.f2 ≤ 1439) :
    Calls Try.prog 53 #[.agg #[.int .i64 e0, .int .i64 e1, .int .i64 e2, .int .i64 e3], .agg #[.int .i64 x.f0, .int .i64 x.f1, .int .i64 x.f2]] w fun e w' => e = .returned (.int .i64 (tm e0 e1 e2 e3 x)) ∧ Below w.heap.size w w' := by
  refine (minute_calls e0 e1 e2 e3 x.f0 x.f1 x.f2 w h0 h1).mono ?_
  rintro e w' ⟨rfl, hb⟩
  have := hS.sel x.f1
  exact ⟨by rw [w64 (by omega) (by omega)]; rfl, hb⟩
theorem contNil_calls (i : Int) (w : World) : Calls Try.prog 47 #[.slice none 0 0, .int .i64 i] w fun e w' => e = .returned (.bool false) ∧ Below w.heap.size w w' := by
  refine (slices_Contains_int_int.calls 1 none 0 [] i false w (Kd.C_nil _ w) (Nat.le_refl _) (by unfold slices_Contains_int_int.f slices_Index_int_int.f; simp [slices_Index_int_int.l0])).mono ?_
  rintro e w' ⟨rfl, hd⟩
  exact ⟨rfl, hd.below⟩

set_option maxHeartbeats 1000000 in
theorem rising_calls (hr gr e0 e1 e2 e3 : Int) (w : World) (H : HouseIn w A2 c2 A3 c3 A4 c4 cl ti cp) (O : Okh hr gr cl ti cp) (hS : Small e0 e1 e2 e3)
    (R : ∀ i j : Nat, i < j → j < cp.length → tm e0 e1 e2 e3 (g74 cp i) ≤ tm e0 e1 e2 e3 (g74 cp j)) :
    Calls Try.prog 51 #[.agg #[.int .i64 hr, .int .i64 gr, .slice A2 cl.length c2, .slice A3 ti.length c3, .slice A4 cp.length c4], .agg #[.int .i64 e0, .int .i64 e1, .int .i64 e2, .int .i64 e3], .slice none 0 0] w fun e w' => e = .returned (.bool true) ∧ Below w.heap.size w w' := by
  have HI := Aside0.mk H
  have HO := Aside0.mk O
  have HR := Aside0.mk R
  have HS := Aside0.mk hS
  clear H O R hS
  have n4 := HO.out.n4
  go_enter Try.func51, Try.ntmps51
  go_wp2
  refine wp_new2 fun w1 B1 B2 HB HZ => ?_
  go_loopg [7, 8, 15] cp.length (fun kq v7 v8 v15 w' => ∃ (j : Nat) (x : Int) (b : Bool), v7 = .int .i64 x ∧ v8 = .bool b ∧ v15 = .int .i64 (j : Int) ∧ Aside0 (j + kq = cp.length) ∧ Aside0 ((b = false ∧ j = 0) ∨ (b = true ∧ 0 < j ∧ x = tm e0 e1 e2 e3 (g74 cp (j - 1)))) ∧
    At w' w.heap.size #[.int .i64 hr, .int .i64 gr, .slice A2 cl.length c2, .slice A3 ti.length c3, .slice A4 cp.length c4] 46 ∧ At w' (w.heap.size + 1) #[.int .i64 e0, .int .i64 e1, .int .i64 e2, .int .i64 e3] 103 ∧ Aside0 (Below w.heap.size w w'))
  case atStart => exact ⟨0, 0, false, rfl, rfl, rfl, ⟨by omega⟩, ⟨.inl ⟨rfl, rfl⟩⟩, B1, B2, HB⟩
  case round =>
    clear B1 B2 HB
    obtain ⟨j, x, b, rfl, rfl, rfl, HK, HL, B1, B2, HB⟩ := hrel
    have b1 := B1.cl
    have b2 := B2.cl
    by_cases hlt : j < cp.length
    · obtain ⟨k1, rfl⟩ : ∃ k1, gk = k1 + 1 := ⟨gk - 1, by have := HK.out; omega⟩
      obtain ⟨ad, ee, hx0, hx1, hx2⟩ := at74 (HI.out.below HB.out).r4 j hlt
      cases ee
      have HM := Aside0.mk (HO.out.cp1 _ (g74_mem cp j hlt))
      have HRj := Aside0.mk (fun hj : 0 < j => HR.out (j - 1) j (by omega) hlt)
      obtain ⟨y, HY⟩ : ∃ y, Aside0 (g74 cp j = y) := ⟨_, ⟨rfl⟩⟩
      rw [HY.out] at hx0 hx1 hx2 HM HRj
      rcases HL.out with ⟨rfl, hj⟩ | ⟨rfl, hj, hxx⟩
      · have HJ := Aside0.mk hj
        clear hj HL
        go_wp2_with (first
          | (go_at_call 47; refine (contNil_calls _ _).mono ?_; rintro e w3 ⟨rfl, hb⟩; obtain ⟨B3, HB3⟩ := one_new hb; clear hb; replace B1 := B1.below HB3.out; replace B2 := B2.below HB3.out; replace HB := Aside0.mk (below_step HB.out HB3.out); clear b1 b2 HB3; have b1 := B1.cl; have b2 := B2.cl; have b3 := B3.cl)
          | (go_at_call 53; refine (minuteT_calls e0 e1 e2 e3 y _ HS.out HM.out.2.2.1 (by have := HM.out; have := HO.out.n2; omega) HM.out.2.2.2.2.1 HM.out.2.2.2.2.2).mono ?_; rintro e w4 ⟨rfl, hb⟩; replace B1 := B1.below hb; replace B2 := B2.below hb; replace HB := Aside0.mk (below_step HB.out hb); clear b1 b2 b3 B3 hb))
        go_roundg k1
        case measure => omega
        case rel => exact ⟨j + 1, _, true, rfl, rfl, by go_num, ⟨by have := HK.out; omega⟩, ⟨.inr ⟨rfl, by omega, by rw [← HY.out]; rfl⟩⟩, B1, B2, HB⟩
      · have hle := HRj.out hj
        rw [← hxx] at hle
        have d5 : decide (tm e0 e1 e2 e3 y < x) = false := by simp; omega
        have HJ := Aside0.mk hj
        clear hj HL hxx hle
        go_wp2_with (first
          | (go_at_call 47; refine (contNil_calls _ _).mono ?_; rintro e w3 ⟨rfl, hb⟩; obtain ⟨B3, HB3⟩ := one_new hb; clear hb; replace B1 := B1.below HB3.out; replace B2 := B2.below HB3.out; replace HB := Aside0.mk (below_step HB.out HB3.out); clear b1 b2 HB3; have b1 := B1.cl; have b2 := B2.cl; have b3 := B3.cl)
          | (go_at_call 53; refine (minuteT_calls e0 e1 e2 e3 y _ HS.out HM.out.2.2.1 (by have := HM.out; have := HO.out.n2; omega) HM.out.2.2.2.2.1 HM.out.2.2.2.2.2).mono ?_; rintro e w4 ⟨rfl, hb⟩; replace B1 := B1.below hb; replace B2 := B2.below hb; replace HB := Aside0.mk (below_step HB.out hb); clear b1 b2 b3 B3 hb))
        go_roundg k1
        case measure => omega
        case rel => exact ⟨j + 1, _, true, rfl, rfl, by go_num, ⟨by have := HK.out; omega⟩, ⟨.inr ⟨rfl, by omega, by rw [← HY.out]; rfl⟩⟩, B1, B2, HB⟩
    · go_wp2
      go_ret
      exact ⟨rfl, HB.out⟩

theorem lists_calls (hr gr : Int) (w : World) : Calls Try.prog 50 #[.agg #[.int .i64 hr, .int .i64 gr, .slice A2 cl.length c2, .slice A3 ti.length c3, .slice A4 cp.length c4]] w fun e w' => e = .returned (.func (.func 69) #[] #[.pointer (some ⟨w.heap.size, 0, none⟩)]) ∧ At w' w.heap.size #[.int .i64 hr, .int .i64 gr, .slice A2 cl.length c2, .slice A3 ti.length c3, .slice A4 cp.length c4] 46 ∧ Below w.heap.size w w' := by
  go_enter Try.func50, Try.ntmps50
  go_wp2
  go_ret
  exact ⟨rfl, At.new _ _ _, below_alloc (Below.refl _ _) _⟩
end

end Go.Proofs.Ytgdbnioodimlfaa.Wk
