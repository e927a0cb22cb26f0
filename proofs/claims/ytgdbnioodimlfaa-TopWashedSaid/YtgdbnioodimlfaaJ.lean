/- The contracts of the literal in Clash, and of verdict where nothing is so. Conditions stand in each theorem. -/
import Derived.Test.YtgdbnioodimlfaaSeq
import Derived.Test.YtgdbnioodimlfaaH
namespace Go.Proofs.Ytgdbnioodimlfaa.Wk
open Go.RowKit Go.Proofs.YtgdbnioodimlfaaW.PrintWords Go.Proofs.YtgdbnioodimlfaaW.PrintLast Go.Proofs.YtgdbnioodimlfaaW.PrintMore Go.Proofs.Ytgdbnioodimlfaa.PTopWashed Go.Proofs.Ytgdbnioodimlfaa.Sq
attribute [local go_sem] max2_int min2_int max_two min_two max_three min_three max_four min_four
set_option linter.unusedVariables false
set_option linter.unusedSimpArgs false

section
variable {A2 : Option Addr} {c2 : Nat} {A3 : Option Addr} {c3 : Nat} {A4 : Option Addr} {c4 : Nat} {cl : List S65} {ti : List S73} {cp : List S74}
theorem lit_calls (hr gr e0 e1 e2 e3 : Int) (b i j pw p1 p2 : Nat) (w : World) (H : HouseIn w A2 c2 A3 c3 A4 c4 cl ti cp) (O : Okh hr gr cl ti cp) (hS : Small e0 e1 e2 e3) (W : WorkIn w b [.int .i64 hr, .int .i64 gr, .slice A2 cl.length c2, .slice A3 ti.length c3, .slice A4 cp.length c4] e0 e1 e2 e3) (hi : i < ti.length) (hj : j < ti.length) (hap : Apart e0 e1 e2 e3 ti cp i j)
    (hw : w.cell? ⟨pw, 0, none⟩ = some (.pointer (some ⟨b, 0, none⟩))) (h1 : w.cell? ⟨p1, 0, none⟩ = some (.int .i64 (i : Int))) (h2 : w.cell? ⟨p2, 0, none⟩ = some (.int .i64 (j : Int))) :
    Calls Try.prog 41 #[.agg #[.int .i64 e0, .int .i64 e1, .int .i64 e2, .int .i64 e3], .pointer (some ⟨pw, 0, none⟩), .pointer (some ⟨p1, 0, none⟩), .pointer (some ⟨p2, 0, none⟩)] w fun e w' => e = .returned (.bool false) ∧ Below w.heap.size w w' := by
  have HI := Aside0.mk H
  have HO := Aside0.mk O
  have HS := Aside0.mk hS
  have HW := Aside0.mk W
  have HP := Aside0.mk hap
  have HJ := Aside0.mk (And.intro hi hj)
  have l0 := World.block_lt_of_cell? _ _ hw
  have l1 := World.block_lt_of_cell? _ _ h1
  have l2 := World.block_lt_of_cell? _ _ h2
  simp only at l0 l1 l2
  clear H O hS W hap hi hj
  go_enter Try.func41, Try.ntmps41
  go_wp2_with (go_at_call 42; refine (clash_calls hr gr e0 e1 e2 e3 b i j _ (HI.out.below (below_alloc (Below.refl _ _) _)) HO.out HS.out (HW.out.below (below_alloc (Below.refl _ _) _)) HJ.out.1 HJ.out.2 HP.out).mono ?_; rintro e w3 ⟨rfl, hb⟩; obtain ⟨B1, HB⟩ := one_new hb; clear hb)
  go_ret
  exact ⟨rfl, HB.out⟩

set_option maxHeartbeats 1000000 in
theorem verdict_calls (b : Nat) (lb : Array Value) (hc : List Value) (hr gr e0 e1 e2 e3 : Int) (w : World) (hhc : hc = [.int .i64 hr, .int .i64 gr, .slice A2 cl.length c2, .slice A3 ti.length c3, .slice A4 cp.length c4]) (W : WorkIn w b hc e0 e1 e2 e3)
    (HF : ∀ W', Below w.heap.size w W' → Calls Try.prog 41 (#[.agg #[.int .i64 e0, .int .i64 e1, .int .i64 e2, .int .i64 e3]] ++ lb) W' fun e w' => e = .returned (.bool false) ∧ Below W'.heap.size W' w') :
    Calls Try.prog 40 #[.pointer (some ⟨b, 0, none⟩), .func (.func 41) #[] lb] w fun e w' => e = .returned (.int .i64 2) ∧ Below w.heap.size w w' := by
  subst hhc
  obtain ⟨tb, cap, mv, cs, hA, hT, t0, t1, t2, t3⟩ := W.out
  simp only [List.cons_append, List.nil_append] at hA
  have HFF := Aside0.mk HF
  have HA := Aside0.mk hA
  have HT := Aside0.mk hT
  clear HF W
  have hlt := hA.lt
  have hlt1 := hT.lt
  have bb := hA.cl
  go_enter Try.func40, Try.ntmps40
  go_wp2
  clear bb hA hT
  go_loopg [5, 6, 15] 1 (fun kq v5 v6 v15 w' => ∃ j : Nat, v5 = .bool false ∧ v15 = .int .i64 (j : Int) ∧ Aside0 (j + kq = 1) ∧ (Aside0 (j = 0 ∧ v6 = .bool false) ∨ Aside0 (j = 1 ∧ v6 = .bool true)) ∧ Aside0 (Below w.heap.size w w'))
  case atStart => exact ⟨0, rfl, rfl, ⟨rfl⟩, .inl ⟨rfl, rfl⟩, ⟨Below.refl _ _⟩⟩
  case round =>
    obtain ⟨j, rfl, rfl, HK, HQ, HB⟩ := hrel
    match gk, HK with
    | 1, HK =>
      obtain rfl : j = 0 := by have := HK.out; omega
      obtain rfl : u6 = .bool false := by rcases HQ with h | h <;> have := h.out <;> simp_all
      have hT := HT.out.below HB.out
      have bt := hT.cl
      have c0 := (bt 0).trans t0
      have c1 := (bt 1).trans t1
      have c2_ := (bt 2).trans t2
      have c3_ := (bt 3).trans t3
      have hlt3 := hT.lt
      clear bt hT HQ
      go_wp2_with ((with_reducible refine (HFF.out _ ?hb0).mono ?_); (case hb0 => exact below_alloc HB.out _); rintro e w7 ⟨rfl, hb⟩; have hS7 := below_step (below_alloc HB.out _) hb)
      go_roundg 0
      case measure => omega
      case rel => exact ⟨1, rfl, by rfl, ⟨rfl⟩, .inr ⟨rfl, rfl⟩, ⟨hS7⟩⟩
    | 0, HK =>
      obtain rfl : j = 1 := by have := HK.out; omega
      obtain rfl : u6 = .bool true := by rcases HQ with h | h <;> have := h.out <;> simp_all
      go_wp2
      go_ret
      exact ⟨rfl, HB.out⟩
end

end Go.Proofs.Ytgdbnioodimlfaa.Wk
