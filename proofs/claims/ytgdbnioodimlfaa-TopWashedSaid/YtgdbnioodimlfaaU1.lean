/- TopWashed at every floor that lies in memory, and the reading of its first argument. Conditions stand in each theorem. -/
import Derived.Test.YtgdbnioodimlfaaSeq
import Derived.Test.YtgdbnioodimlfaaT1
import Derived.Test.YtgdbnioodimlfaaT2
import Derived.Deep.Slices
import Derived.ProofKit
namespace Go.Proofs.Ytgdbnioodimlfaa.Wk
open Go.ChangeShapes Go.WideShapes Go.Deep
open Go.RowKit Go.Proofs.YtgdbnioodimlfaaW.PrintWords Go.Proofs.YtgdbnioodimlfaaW.PrintLast Go.Proofs.YtgdbnioodimlfaaW.PrintMore Go.Proofs.Ytgdbnioodimlfaa.PTopWashed Go.Proofs.Ytgdbnioodimlfaa.Sq
attribute [local go_sem] max2_int min2_int max_two min_two max_three min_three max_four min_four
set_option linter.unusedVariables false
set_option linter.unusedSimpArgs false

theorem top_calls (hr gr : Int) (A2 : Option Addr) (c2 : Nat) (kl : List S54) (A3 : Option Addr) (c3 : Nat) (kt : List S58) (A4 : Option Addr) (c4 : Nat) (kc : List S60) (tubs op clo : Int) (A5 : Option Addr) (c5 : Nat) (kq : List S54) (x z : Int) (w : World) (I : RefIn w A2 c2 kl A3 c3 kt A4 c4 kc A5 c5 kq) (hx0 : 0 ≤ x) (hx1 : x ≤ 65535) (hz0 : 0 ≤ z) (hz1 : z ≤ 255) : Calls Try.prog 3 #[.agg #[.int .i64 hr, .int .i64 gr, .slice A2 kl.length c2, .slice A3 kt.length c3, .slice A4 kc.length c4, .int .i64 tubs, .int .i64 op, .int .i64 clo, .slice A5 kq.length c5], .int .u16 x, .int .u8 z] w fun e w' => e = .returned (.bool true) ∧ Below w.heap.size w w' := by
  obtain ⟨b, hb⟩ := thin_f hr gr kl kt kc tubs op clo kq 5000 (by decide)
  obtain ⟨r, hr1, hr2⟩ := fault7_f hr gr kl kt kc tubs op clo kq 5000 (by decide)
  by_cases hy : b = true ∧ r = 0 ∧ kq.length ≠ 0 ∧ kl.length ≠ 0
  · obtain ⟨rfl, rfl, hq0, hl0⟩ := hy
    obtain ⟨all, hall, V⟩ := hr2 rfl
    exact topYes_calls hr gr A2 c2 kl A3 c3 kt A4 c4 kc tubs op clo A5 c5 kq x z w I 5000 hb hr1 hq0 hl0 (by decide) all hall V hx0 hx1 hz0 hz1
  · exact topNot_calls hr gr A2 c2 kl A3 c3 kt A4 c4 kc tubs op clo A5 c5 kq x z w I 5000 b hb r hr1 hy

theorem list_of {α : Type} {P : Nat → α → Prop} : ∀ n, (∀ i, i < n → ∃ p, P i p) → ∃ l : List α, l.length = n ∧ ∀ i p, l[i]? = some p → P i p := by
  intro n
  induction n with
  | zero => exact fun _ => ⟨[], rfl, fun i p h => by simp at h⟩
  | succ n ih =>
    intro h
    obtain ⟨l, h1, h2⟩ := ih fun i hi => h i (by omega)
    obtain ⟨p, hp⟩ := h n (by omega)
    refine ⟨l ++ [p], by simp [h1], fun i q hq => ?_⟩
    rcases Nat.lt_or_ge i l.length with hi | hi
    · rw [List.getElem?_append_left hi] at hq
      exact h2 i q hq
    · rw [List.getElem?_append_right hi] at hq
      have hi2 : i - l.length = 0 := by
        rcases Nat.eq_zero_or_pos (i - l.length) with e | e
        · exact e
        · rw [List.getElem?_eq_none (by simp; omega)] at hq
          cases hq
      rw [hi2] at hq
      simp at hq
      subst hq
      have : i = n := by omega
      subst this
      exact hp
set_option maxRecDepth 100000 in
theorem came54 {H : Type} {enc : TypeId × Value → H} {w : World} {base : Nat} {spare : Nat → Bool} {held : Bool} {fuel : Nat} {cs : List Value} {x : DataW H × List MemPlace} (h : DataW.trod enc Try.prog w base spare held fuel 22 cs = some x) :
    ∃ (A : Option Addr) (c : Nat) (l : List S54), cs = [.slice A l.length c] ∧ l.length ≤ c ∧ Kd.C k54 w A l.length l := by
  have hC : Try.prog.cellsOf 54 = 2 := by kernel_rfl
  have hC3 : Try.prog.cellsOf 3 = 1 := by kernel_rfl
  rcases open_slice Try.underlying22 h with ⟨rfl, _⟩ | ⟨a, len, cap, m, n, D, Pl, rfl, _, hl, hm, hmm, _, hi⟩
  · exact ⟨none, 0, [], rfl, Nat.le_refl _, rfl, by decide, fun h => absurd h (Nat.lt_irrefl 0)⟩
  · have hlm : len ≤ m := by rw [hmm]; split <;> omega
    rw [hC] at hi
    obtain ⟨l, hll, hlp⟩ := list_of (P := fun i (p : S54) => w.cell? (a.add (i * 2 + 0)) = some (.int .i64 p.f0) ∧ w.cell? (a.add (i * 2 + 1)) = some (.int .i64 p.f1)) len (fun i hil => by
      obtain ⟨cs, hcs, ht⟩ := hi i (by omega)
      obtain ⟨ys, n2, _, _, _, hlen, hg⟩ := DataW.trod_struct Try.underlying54 ht
      obtain ⟨_, hcl, hat⟩ := World.cells?_some hcs
      match cs, hcl, ys, hlen with
      | [x0, x1], _, [y0, y1], _ =>
        have g0 := hg 0 _ rfl
        simp [hC3] at g0
        obtain ⟨n0, e0, _, _⟩ := DataW.trod_int Try.underlying3 g0
        injection e0 with e0
        subst e0
        have q0 := hat 0 (by omega)
        rw [_root_.Go.Deep.add_add] at q0
        have g1 := hg 1 _ rfl
        simp [hC3] at g1
        obtain ⟨n1, e1, _, _⟩ := DataW.trod_int Try.underlying3 g1
        injection e1 with e1
        subst e1
        have q1 := hat 1 (by omega)
        rw [_root_.Go.Deep.add_add] at q1
        exact ⟨⟨n0, n1⟩, q0, q1⟩)
    subst hll
    refine ⟨some a, cap, l, rfl, hl, rfl, by unfold maxLen at hm; omega, fun _ => ⟨a, rfl, fun j p hp => ⟨[.int .i64 p.f0, .int .i64 p.f1], rfl, k54_mk w p, fun i u hu => ?_⟩⟩⟩
    have hc := hlp j p hp
    match i, hu with
    | 0, hu => simp at hu; subst hu; exact hc.1
    | 1, hu => simp at hu; subst hu; exact hc.2

set_option maxRecDepth 100000 in
theorem came58 {H : Type} {enc : TypeId × Value → H} {w : World} {base : Nat} {spare : Nat → Bool} {held : Bool} {fuel : Nat} {cs : List Value} {x : DataW H × List MemPlace} (h : DataW.trod enc Try.prog w base spare held fuel 23 cs = some x) :
    ∃ (A : Option Addr) (c : Nat) (l : List S58), cs = [.slice A l.length c] ∧ l.length ≤ c ∧ Kd.C k58 w A l.length l := by
  have hC : Try.prog.cellsOf 58 = 2 := by kernel_rfl
  have hC3 : Try.prog.cellsOf 3 = 1 := by kernel_rfl
  rcases open_slice Try.underlying23 h with ⟨rfl, _⟩ | ⟨a, len, cap, m, n, D, Pl, rfl, _, hl, hm, hmm, _, hi⟩
  · exact ⟨none, 0, [], rfl, Nat.le_refl _, rfl, by decide, fun h => absurd h (Nat.lt_irrefl 0)⟩
  · have hlm : len ≤ m := by rw [hmm]; split <;> omega
    rw [hC] at hi
    obtain ⟨l, hll, hlp⟩ := list_of (P := fun i (p : S58) => w.cell? (a.add (i * 2 + 0)) = some (.int .i64 p.f0) ∧ w.cell? (a.add (i * 2 + 1)) = some (.int .i64 p.f1)) len (fun i hil => by
      obtain ⟨cs, hcs, ht⟩ := hi i (by omega)
      obtain ⟨ys, n2, _, _, _, hlen, hg⟩ := DataW.trod_struct Try.underlying58 ht
      obtain ⟨_, hcl, hat⟩ := World.cells?_some hcs
      match cs, hcl, ys, hlen with
      | [x0, x1], _, [y0, y1], _ =>
        have g0 := hg 0 _ rfl
        simp [hC3] at g0
        obtain ⟨n0, e0, _, _⟩ := DataW.trod_int Try.underlying3 g0
        injection e0 with e0
        subst e0
        have q0 := hat 0 (by omega)
        rw [_root_.Go.Deep.add_add] at q0
        have g1 := hg 1 _ rfl
        simp [hC3] at g1
        obtain ⟨n1, e1, _, _⟩ := DataW.trod_int Try.underlying3 g1
        injection e1 with e1
        subst e1
        have q1 := hat 1 (by omega)
        rw [_root_.Go.Deep.add_add] at q1
        exact ⟨⟨n0, n1⟩, q0, q1⟩)
    subst hll
    refine ⟨some a, cap, l, rfl, hl, rfl, by unfold maxLen at hm; omega, fun _ => ⟨a, rfl, fun j p hp => ⟨[.int .i64 p.f0, .int .i64 p.f1], rfl, k58_mk w p, fun i u hu => ?_⟩⟩⟩
    have hc := hlp j p hp
    match i, hu with
    | 0, hu => simp at hu; subst hu; exact hc.1
    | 1, hu => simp at hu; subst hu; exact hc.2

set_option maxRecDepth 100000 in
theorem came60 {H : Type} {enc : TypeId × Value → H} {w : World} {base : Nat} {spare : Nat → Bool} {held : Bool} {fuel : Nat} {cs : List Value} {x : DataW H × List MemPlace} (h : DataW.trod enc Try.prog w base spare held fuel 24 cs = some x) :
    ∃ (A : Option Addr) (c : Nat) (l : List S60), cs = [.slice A l.length c] ∧ l.length ≤ c ∧ Kd.C k60 w A l.length l := by
  have hC : Try.prog.cellsOf 60 = 3 := by kernel_rfl
  have hC3 : Try.prog.cellsOf 3 = 1 := by kernel_rfl
  rcases open_slice Try.underlying24 h with ⟨rfl, _⟩ | ⟨a, len, cap, m, n, D, Pl, rfl, _, hl, hm, hmm, _, hi⟩
  · exact ⟨none, 0, [], rfl, Nat.le_refl _, rfl, by decide, fun h => absurd h (Nat.lt_irrefl 0)⟩
  · have hlm : len ≤ m := by rw [hmm]; split <;> omega
    rw [hC] at hi
    obtain ⟨l, hll, hlp⟩ := list_of (P := fun i (p : S60) => w.cell? (a.add (i * 3 + 0)) = some (.int .i64 p.f0) ∧ w.cell? (a.add (i * 3 + 1)) = some (.int .i64 p.f1) ∧ w.cell? (a.add (i * 3 + 2)) = some (.int .i64 p.f2)) len (fun i hil => by
      obtain ⟨cs, hcs, ht⟩ := hi i (by omega)
      obtain ⟨ys, n2, _, _, _, hlen, hg⟩ := DataW.trod_struct Try.underlying60 ht
      obtain ⟨_, hcl, hat⟩ := World.cells?_some hcs
      match cs, hcl, ys, hlen with
      | [x0, x1, x2], _, [y0, y1, y2], _ =>
        have g0 := hg 0 _ rfl
        simp [hC3] at g0
        obtain ⟨n0, e0, _, _⟩ := DataW.trod_int Try.underlying3 g0
        injection e0 with e0
        subst e0
        have q0 := hat 0 (by omega)
        rw [_root_.Go.Deep.add_add] at q0
        have g1 := hg 1 _ rfl
        simp [hC3] at g1
        obtain ⟨n1, e1, _, _⟩ := DataW.trod_int Try.underlying3 g1
        injection e1 with e1
        subst e1
        have q1 := hat 1 (by omega)
        rw [_root_.Go.Deep.add_add] at q1
        have g2 := hg 2 _ rfl
        simp [hC3] at g2
        obtain ⟨n2, e2, _, _⟩ := DataW.trod_int Try.underlying3 g2
        injection e2 with e2
        subst e2
        have q2 := hat 2 (by omega)
        rw [_root_.Go.Deep.add_add] at q2
        exact ⟨⟨n0, n1, n2⟩, q0, q1, q2⟩)
    subst hll
    refine ⟨some a, cap, l, rfl, hl, rfl, by unfold maxLen at hm; omega, fun _ => ⟨a, rfl, fun j p hp => ⟨[.int .i64 p.f0, .int .i64 p.f1, .int .i64 p.f2], rfl, k60_mk w p, fun i u hu => ?_⟩⟩⟩
    have hc := hlp j p hp
    match i, hu with
    | 0, hu => simp at hu; subst hu; exact hc.1
    | 1, hu => simp at hu; subst hu; exact hc.2.1
    | 2, hu => simp at hu; subst hu; exact hc.2.2

set_option maxRecDepth 100000 in
theorem came28 {H : Type} {enc : TypeId × Value → H} {w : World} {base b0 : Nat} {spare : Nat → Bool} {held : Bool} {r : Reach} {v : Value} {d : DataW H} {p : List MemPlace} (hv : Value.okWide Try.prog w r b0 28 v) (h : DataW.Trod enc Try.prog w base spare held 28 v d p) :
    ∃ (hr gr : Int) (A2 : Option Addr) (c2 : Nat) (kl : List S54) (A3 : Option Addr) (c3 : Nat) (kt : List S58) (A4 : Option Addr) (c4 : Nat) (kc : List S60) (tubs op clo : Int) (A5 : Option Addr) (c5 : Nat) (kq : List S54), v = .agg #[.int .i64 hr, .int .i64 gr, .slice A2 kl.length c2, .slice A3 kt.length c3, .slice A4 kc.length c4, .int .i64 tubs, .int .i64 op, .int .i64 clo, .slice A5 kq.length c5] ∧ RefIn w A2 c2 kl A3 c3 kt A4 c4 kc A5 c5 kq := by
  obtain ⟨cs, rfl, hsz⟩ := okWide_struct Try.underlying28 hv
  obtain ⟨l⟩ := cs
  have hC : Try.prog.cellsOf 28 = 9 := by kernel_rfl
  have hC26 : Try.prog.cellsOf 26 = 5 := by kernel_rfl
  have hC3 : Try.prog.cellsOf 3 = 1 := by kernel_rfl
  have hC22 : Try.prog.cellsOf 22 = 1 := by kernel_rfl
  have hC23 : Try.prog.cellsOf 23 = 1 := by kernel_rfl
  have hC24 : Try.prog.cellsOf 24 = 1 := by kernel_rfl
  match l, hsz.trans hC with
  | [c0, c1, c2, c3, c4, c5, c6, c7, c8], _ =>
    obtain ⟨fuel, hf⟩ := h
    obtain ⟨xs, n, _, _, _, hlen, hg⟩ := DataW.trod_struct Try.underlying28 hf
    match xs, hlen with
    | [y0, y1, y2, y3, y4], _ =>
      have g0 := hg 0 _ rfl
      have g1 := hg 1 _ rfl
      have g2 := hg 2 _ rfl
      have g3 := hg 3 _ rfl
      have g4 := hg 4 _ rfl
      simp [Value.cells, hC26, hC3, hC22] at g0 g1 g2 g3 g4
      obtain ⟨xs, n, _, _, _, hlen, hk⟩ := DataW.trod_struct Try.underlying26 g0
      match xs, hlen with
      | [z0, z1, z2, z3, z4], _ =>
        have k0 := hk 0 _ rfl
        have k1 := hk 1 _ rfl
        have k2 := hk 2 _ rfl
        have k3 := hk 3 _ rfl
        have k4 := hk 4 _ rfl
        simp [hC3, hC22, hC23, hC24] at k0 k1 k2 k3 k4
        obtain ⟨hr, e0, _, _⟩ := DataW.trod_int Try.underlying3 k0
        obtain ⟨gr, e1, _, _⟩ := DataW.trod_int Try.underlying3 k1
        obtain ⟨A2, d2, kl, e2, m2, r2⟩ := came54 k2
        obtain ⟨A3, d3, kt, e3, m3, r3⟩ := came58 k3
        obtain ⟨A4, d4, kc, e4, m4, r4⟩ := came60 k4
        obtain ⟨tubs, e5, _, _⟩ := DataW.trod_int Try.underlying3 g1
        obtain ⟨op, e6, _, _⟩ := DataW.trod_int Try.underlying3 g2
        obtain ⟨clo, e7, _, _⟩ := DataW.trod_int Try.underlying3 g3
        obtain ⟨A5, d5, kq, e8, m5, r5⟩ := came54 g4
        injection e0 with e0
        injection e1 with e1
        injection e2 with e2
        injection e3 with e3
        injection e4 with e4
        injection e5 with e5
        injection e6 with e6
        injection e7 with e7
        injection e8 with e8
        subst e0 e1 e2 e3 e4 e5 e6 e7 e8
        exact ⟨hr, gr, A2, d2, kl, A3, d3, kt, A4, d4, kc, tubs, op, clo, A5, d5, kq, rfl, ⟨r2, m2, r3, m3, r4, m4, r5, m5⟩⟩

end Go.Proofs.Ytgdbnioodimlfaa.Wk
