/- The contracts of Floor and House of package possertop, with what they hand out read as lists. Conditions stand in each theorem. -/
import Derived.Test.YtgdbnioodimlfaaSeq
import Derived.Test.YtgdbnioodimlfaaP4
import Derived.Test.YtgdbnioodimlfaaR2
namespace Go.Proofs.Ytgdbnioodimlfaa.Wk
open Go.RowKit Go.Proofs.YtgdbnioodimlfaaW.PrintWords Go.Proofs.YtgdbnioodimlfaaW.PrintLast Go.Proofs.YtgdbnioodimlfaaW.PrintMore Go.Proofs.Ytgdbnioodimlfaa.PTopWashed Go.Proofs.Ytgdbnioodimlfaa.Sq
attribute [local go_sem] max2_int min2_int max_two min_two max_three min_three max_four min_four
set_option linter.unusedVariables false
set_option linter.unusedSimpArgs false

theorem c65 {w : World} {base : Nat} {v : Value} {kl : List S54} (h : w.ownsRow base 65 2 v kl.length (raw2 (fun i => (g54 kl i).f0) (fun i => (g54 kl i).f1) kl.length)) (hn : kl.length ≤ 1000) : ∃ A cap, v = .slice A (kl.map m65).length cap ∧ (kl.map m65).length ≤ cap ∧ Kd.C k65 w A (kl.map m65).length (kl.map m65) := by
  rw [List.length_map]
  exact C65_of_raw (xs := kl.map m65) (by simpa only [g65_m, m65] using h) (by simp) hn
theorem c53 {w : World} {base : Nat} {v : Value} {kl : List S54} (h : w.ownsRow base 53 2 v kl.length (raw2 (fun i => (g54 kl i).f0) (fun i => (g54 kl i).f1) kl.length)) (hn : kl.length ≤ 1000) : ∃ A cap, v = .slice A (kl.map m53).length cap ∧ (kl.map m53).length ≤ cap ∧ Kd.C k53 w A (kl.map m53).length (kl.map m53) := by
  rw [List.length_map]
  exact C53_of_raw (xs := kl.map m53) (by simpa only [g53_m, m53] using h) (by simp) hn
theorem c73 {w : World} {base : Nat} {v : Value} {kt : List S58} (h : w.ownsRow base 73 2 v kt.length (raw2 (fun i => (g58 kt i).f0) (fun i => (g58 kt i).f1) kt.length)) (hn : kt.length ≤ 1000) : ∃ A cap, v = .slice A (kt.map m73).length cap ∧ (kt.map m73).length ≤ cap ∧ Kd.C k73 w A (kt.map m73).length (kt.map m73) := by
  rw [List.length_map]
  exact C73_of_raw (xs := kt.map m73) (by simpa only [g73_m, m73] using h) (by simp) hn
theorem c74 {w : World} {base : Nat} {v : Value} {kc : List S60} (h : w.ownsRow base 74 3 v kc.length (raw3 (fun i => (g60 kc i).f0) (fun i => (g60 kc i).f1) (fun i => (g60 kc i).f2) kc.length)) (hn : kc.length ≤ 1000) : ∃ A cap, v = .slice A (kc.map m74).length cap ∧ (kc.map m74).length ≤ cap ∧ Kd.C k74 w A (kc.map m74).length (kc.map m74) := by
  rw [List.length_map]
  exact C74_of_raw (xs := kc.map m74) (by simpa only [g74_m, m74] using h) (by simp) hn
theorem houseOf_calls (hr gr : Int) (n2 n3 n4 : Nat) (kl : List S54) (A2 : Option Addr) (c2 : Nat) (kt : List S58) (A3 : Option Addr) (c3 : Nat) (kc : List S60) (A4 : Option Addr) (c4 : Nat) (w : World) (e2 : kl.length = n2) (e3 : kt.length = n3) (e4 : kc.length = n4) (h54 : Kd.C k54 w A2 n2 kl) (h58 : Kd.C k58 w A3 n3 kt) (h60 : Kd.C k60 w A4 n4 kc) (l54 : n2 ≤ 1000) (l58 : n3 ≤ 1000) (l60 : n4 ≤ 1000) (cl : List S65) (ti : List S73) (cp : List S74) (ecl : kl.map m65 = cl) (eti : kt.map m73 = ti) (ecp : kc.map m74 = cp) :
    Calls Try.prog 15 #[.agg #[.int .i64 hr, .int .i64 gr, .slice A2 n2 c2, .slice A3 n3 c3, .slice A4 n4 c4]] w fun e w' => ∃ B2 b2 B3 b3 B4 b4, e = .returned (.agg #[.int .i64 hr, .int .i64 gr, .slice B2 cl.length b2, .slice B3 ti.length b3, .slice B4 cp.length b4]) ∧ HouseIn w' B2 b2 B3 b3 B4 b4 cl ti cp ∧ Below w.heap.size w w' := by
  subst e2
  subst e3
  subst e4 ecl eti ecp
  refine (House_calls hr gr kl A2 c2 kt A3 c3 kc A4 c4 w h54 h58 h60 l54 l58 l60).mono ?_
  rintro e w' ⟨v2, v3, v4, rfl, o2, o3, o4, hb⟩
  obtain ⟨B2, b2, rfl, m2, C2⟩ := c65 o2 l54
  obtain ⟨B3, b3, rfl, m3, C3⟩ := c73 o3 l58
  obtain ⟨B4, b4, rfl, m4, C4⟩ := c74 o4 l60
  exact ⟨B2, b2, B3, b3, B4, b4, rfl, ⟨C2, m2, C3, m3, C4, m4⟩, hb⟩
theorem floorOf_calls (hr gr tubs op clo : Int) (n2 : Nat) (kl : List S54) (A2 : Option Addr) (c2 : Nat) (kt : List S58) (A3 : Option Addr) (c3 : Nat) (kc : List S60) (A4 : Option Addr) (c4 : Nat) (kq : List S54) (A5 : Option Addr) (c5 : Nat) (w : World) (e2 : kl.length = n2) (h54 : Kd.C k54 w A2 n2 kl) (h58 : Kd.C k58 w A3 kt.length kt) (h60 : Kd.C k60 w A4 kc.length kc) (hq54 : Kd.C k54 w A5 kq.length kq) (l54 : n2 ≤ 1000) (l58 : kt.length ≤ 1000) (l60 : kc.length ≤ 1000) (lq : kq.length ≤ 1000) (cl : List S65) (ti : List S73) (cp : List S74) (qu : List S53) (ecl : kl.map m65 = cl) (eti : kt.map m73 = ti) (ecp : kc.map m74 = cp) (equ : kq.map m53 = qu) :
    Calls Try.prog 11 #[.agg #[.int .i64 hr, .int .i64 gr, .slice A2 n2 c2, .slice A3 kt.length c3, .slice A4 kc.length c4, .int .i64 tubs, .int .i64 op, .int .i64 clo, .slice A5 kq.length c5]] w fun e w' => ∃ B2 b2 B3 b3 B4 b4 B5 b5, e = .returned (.agg #[.int .i64 hr, .int .i64 gr, .slice B2 cl.length b2, .slice B3 ti.length b3, .slice B4 cp.length b4, .int .i64 tubs, .int .i64 op, .int .i64 clo, .slice B5 qu.length b5]) ∧ FloIn w' B2 b2 B3 b3 B4 b4 cl ti cp B5 b5 qu ∧ Below w.heap.size w w' := by
  subst e2 ecl eti ecp equ
  refine (Floor_calls hr gr tubs op clo kl A2 c2 kt A3 c3 kc A4 c4 kq A5 c5 w h54 h58 h60 hq54 l54 l58 l60 lq).mono ?_
  rintro e w' ⟨v2, v3, v4, v8, rfl, o2, o3, o4, o8, hb⟩
  obtain ⟨B2, b2, rfl, m2, C2⟩ := c65 o2 l54
  obtain ⟨B3, b3, rfl, m3, C3⟩ := c73 o3 l58
  obtain ⟨B4, b4, rfl, m4, C4⟩ := c74 o4 l60
  obtain ⟨B5, b5, rfl, m5, C5⟩ := c53 o8 lq
  exact ⟨B2, b2, B3, b3, B4, b4, B5, b5, rfl, ⟨⟨C2, m2, C3, m3, C4, m4⟩, C5, m5⟩, hb⟩

end Go.Proofs.Ytgdbnioodimlfaa.Wk
