/- Contracts of small functions of the program: what they return, and that what lay in memory stays. Conditions stand in each theorem. -/
import Derived.Test.YtgdbnioodimlfaaSeq
import Derived.Test.YtgdbnioodimlfaaPTopWashedx6

namespace Go.Proofs.Ytgdbnioodimlfaa.Wk
open Go.RowKit Go.Proofs.YtgdbnioodimlfaaW.PrintWords Go.Proofs.YtgdbnioodimlfaaW.PrintLast Go.Proofs.YtgdbnioodimlfaaW.PrintMore Go.Proofs.Ytgdbnioodimlfaa.PTopWashed Go.Proofs.Ytgdbnioodimlfaa.Sq
attribute [local go_sem] max2_int min2_int max_two min_two max_three min_three max_four min_four
set_option linter.unusedVariables false
set_option linter.unusedSimpArgs false

def sel4 (e0 e1 e2 e3 : Int) (i : Int) : Int := [e0, e1, e2, e3].getD i.toNat 0
theorem get4 (e0 e1 e2 e3 : Int) (i : Int) (h0 : 0 ≤ i) (h4 : i < 4) : (#[Value.int .i64 e0, .int .i64 e1, .int .i64 e2, .int .i64 e3] : Array Value)[i.toNat]? = some (.int .i64 (sel4 e0 e1 e2 e3 i)) := by
  obtain ⟨n, rfl⟩ := Int.eq_ofNat_of_zero_le h0
  match n, h4 with
  | 0, _ => rfl
  | 1, _ => rfl
  | 2, _ => rfl
  | 3, _ => rfl

set_option maxHeartbeats 400000 in
theorem minute_calls (e0 e1 e2 e3 tk ck mi : Int) (w : World) (hck : 0 ≤ ck) (hck4 : ck < 4) :
    Calls Try.prog 53 #[.agg #[.int .i64 e0, .int .i64 e1, .int .i64 e2, .int .i64 e3], .agg #[.int .i64 tk, .int .i64 ck, .int .i64 mi]] w fun e w' => e = .returned (.int .i64 (wrap64 (mi - sel4 e0 e1 e2 e3 ck))) ∧ Below w.heap.size w w' := by
  have HC := Aside0.mk (get4 e0 e1 e2 e3 ck hck hck4)
  go_enter Try.func53, Try.ntmps53
  go_wp2
  refine wp_new2 fun w1 B1 B2 HB HZ => ?_
  refine region_b [(0, 0), (1, 0), (2, 0), (3, 0), (4, 0), (5, 0), (6, 0), (7, 0)] (by kernel_rfl) rfl (by kernel_rfl) (by intro _ _ d _ _ h; cases d <;> exact h) ?_
  repeat (first | (refine seq_off (a' := ?_) rfl rfl ?_ ?_; rotate_left; (· simp only [List.getElem_toArray, List.getElem_cons_succ, List.getElem_cons_zero, Act.put, List.setIfInBounds_toArray, List.set_cons_zero, List.set_cons_succ, i64_w, i32_w]; rfl)) | (refine seq_read (v := ?_) (a' := ?_) rfl rfl (fun w' hS => ?_) ?_ ?_; rotate_left 2; (· have b1 : w'.cell? ⟨w.heap.size, ck.toNat, none⟩ = _ := ((B1.below hS).cl _).trans HC.out; have b2 := (B2.below hS).cl; go_simp; try with_reducible rfl); (· simp only [List.getElem_toArray, List.getElem_cons_succ, List.getElem_cons_zero, Act.put, List.setIfInBounds_toArray, List.set_cons_zero, List.set_cons_succ, i64_w, i32_w]; rfl)))
  refine seq_done ?_
  go_wp2
  go_ret
  exact ⟨rfl, HB.out.drew⟩

def gi (l : List Int) (j : Nat) : Int := l.getD j 0
theorem at_nat {w : World} {A : Option Addr} {n : Nat} {xs : List Int} (h : Kd.C (Kd.int .i64) w A n xs) (j : Nat) (hj : j < n) : ∃ ad, A = some ad ∧ w.cell? (ad.add j) = some (.int .i64 (gi xs j)) := by
  obtain ⟨ad, e, hc⟩ := Kd.at_int h (j : Int) (by omega) (by omega)
  exact ⟨ad, e, hc⟩
theorem add_zero (ad : Addr) : ad.add 0 = ad := by simp [Addr.add]

def minL : List Int → Int
  | [] => 0
  | x :: xs => xs.foldl mn x
theorem minL_one (l : List Int) (h : 0 < l.length) : minL (l.take 1) = gi l 0 := by
  cases l with
  | nil => simp at h
  | cons x xs => rfl
theorem minL_succ (l : List Int) (j : Nat) (h0 : 1 ≤ j) (h : j < l.length) : minL (l.take (j + 1)) = mn (minL (l.take j)) (gi l j) := by
  cases l with
  | nil => simp at h
  | cons x xs =>
    obtain ⟨m, rfl⟩ : ∃ m, j = m + 1 := ⟨j - 1, by omega⟩
    simp only [List.length_cons] at h
    have h' : m < xs.length := by omega
    simp only [minL, gi, List.take_succ_cons, List.take_succ_eq_append_getElem h', List.foldl_append, List.foldl_cons, List.foldl_nil]
    simp [h']

set_option maxHeartbeats 400000 in
theorem Min_calls (l : List Int) (A : Option Addr) (c : Nat) (w : World) (hr : Kd.C (Kd.int .i64) w A l.length l) (h1 : 1 ≤ l.length) (h63 : l.length ≤ 1000) :
    Calls Try.prog 74 #[.slice A l.length c] w fun e w' => e = .returned (.int .i64 (minL l)) ∧ w = w' := by
  obtain ⟨ad, rfl, hx0⟩ := at_nat hr 0 (by omega)
  rw [add_zero] at hx0
  have HR := Aside0.mk hr
  clear hr
  have hlt : decide ((l.length : Int) < 1) = false := by simp; omega
  go_enter Try.func74, Try.ntmps74
  go_wp2
  go_loopg [3, 4] l.length (fun kq v3 v4 w' => ∃ j : Nat, v3 = .int .i64 (minL (l.take j)) ∧ v4 = .int .i64 (j : Int) ∧ Aside0 (1 ≤ j) ∧ Aside0 (j + kq = l.length + 1) ∧ w = w')
  case atStart => exact ⟨1, by rw [minL_one l (by omega)], rfl, ⟨by omega⟩, ⟨by omega⟩, rfl⟩
  case round =>
    obtain ⟨j, rfl, rfl, ⟨hj1⟩, ⟨hjk⟩, rfl⟩ := hrel
    by_cases hlt2 : j < l.length
    · obtain ⟨ad2, e2, hx⟩ := at_nat HR.out j hlt2
      cases e2
      have hs := minL_succ l j hj1 hlt2
      obtain ⟨k1, rfl⟩ : ∃ k1, gk = k1 + 1 := ⟨gk - 1, by omega⟩
      obtain ⟨x, hx'⟩ : ∃ x, gi l j = x := ⟨_, rfl⟩
      rw [hx'] at hx hs
      have HS := Aside0.mk hs
      have HK := Aside0.mk hjk
      clear hs hjk hx'
      go_wp2
      all_goals
        go_roundg k1
        case measure => have := HK.out; omega
        case rel => exact ⟨j + 1, by rw [HS.out]; unfold mn; first | rw [if_pos (by assumption)] | rw [if_neg (by omega)], by go_num, ⟨by omega⟩, ⟨by have := HK.out; omega⟩, rfl⟩
    · have HK := Aside0.mk hjk
      clear hjk
      go_wp2
      go_ret
      exact ⟨congrArg (fun x => Ending.returned (Value.int .i64 x)) (by rw [List.take_of_length_le (by omega)]), rfl⟩

set_option maxHeartbeats 400000 in
theorem minimum67_calls (l : List Int) (A : Option Addr) (c : Nat) (w : World) (hr : Kd.C (Kd.int .i64) w A l.length l) (h1 : 1 ≤ l.length) (h63 : l.length ≤ 1000) :
    Calls Try.prog 67 #[.slice A l.length c] w fun e w' => e = .returned (.int .i64 (minL l)) ∧ w = w' := by
  have HR := Aside0.mk hr
  have H1 := Aside0.mk h1
  have H2 := Aside0.mk h63
  clear hr h1 h63
  go_enter Try.func67, Try.ntmps67
  go_wp2_with (go_at_call 74; refine (Min_calls l A c _ HR.out H1.out H2.out).mono ?_; rintro e w' ⟨rfl, rfl⟩)
  go_ret
  exact ⟨rfl, rfl⟩

set_option maxHeartbeats 400000 in
theorem minimum60_calls (l : List Int) (A : Option Addr) (c : Nat) (w : World) (hr : Kd.C (Kd.int .i64) w A l.length l) (h1 : 1 ≤ l.length) (h63 : l.length ≤ 1000) :
    Calls Try.prog 60 #[.slice A l.length c] w fun e w' => e = .returned (.int .i64 (minL l)) ∧ w = w' := by
  have HR := Aside0.mk hr
  have H1 := Aside0.mk h1
  have H2 := Aside0.mk h63
  clear hr h1 h63
  go_enter Try.func60, Try.ntmps60
  go_wp2_with (go_at_call 74; refine (Min_calls l A c _ HR.out H1.out H2.out).mono ?_; rintro e w' ⟨rfl, rfl⟩)
  go_ret
  exact ⟨rfl, rfl⟩

end Go.Proofs.Ytgdbnioodimlfaa.Wk

/- Contracts of the tests of ranges, tickets and clips on valid values; of wider, off and lists. Conditions stand in each theorem. -/
namespace Go.Proofs.Ytgdbnioodimlfaa.Wk
open Go.RowKit Go.Proofs.YtgdbnioodimlfaaW.PrintWords Go.Proofs.YtgdbnioodimlfaaW.PrintLast Go.Proofs.YtgdbnioodimlfaaW.PrintMore Go.Proofs.Ytgdbnioodimlfaa.PTopWashed Go.Proofs.Ytgdbnioodimlfaa.Sq
attribute [local go_sem] max2_int min2_int max_two min_two max_three min_three max_four min_four
set_option linter.unusedVariables false
set_option linter.unusedSimpArgs false

set_option maxHeartbeats 400000 in
theorem off_calls (lo hi : Int) (w : World) (h1 : -30 ≤ lo) (h2 : lo ≤ hi) (h3 : hi ≤ 30) :
    Calls Try.prog 63 #[.agg #[.int .i64 lo, .int .i64 hi]] w fun e w' => e = .returned (.bool true) ∧ Below w.heap.size w w' := by
  have d1 : decide (-30 ≤ lo) = true := decide_eq_true h1
  have d2 : decide (lo ≤ hi) = true := decide_eq_true h2
  have d3 : decide (hi ≤ 30) = true := decide_eq_true h3
  go_enter Try.func63, Try.ntmps63
  go_wp2
  go_ret
  exact ⟨rfl, by repeat (first | (with_reducible exact HB.out) | (with_reducible apply below_alloc) | (with_reducible apply pw_below_drewN) | (with_reducible apply below_drew1) | (with_reducible exact Below.refl _ _))⟩
set_option maxHeartbeats 400000 in
theorem washes_calls (lo hi : Int) (w : World) (h1 : 0 ≤ lo) (h2 : lo ≤ hi) (h3 : hi ≤ 240) :
    Calls Try.prog 57 #[.int .i64 240, .agg #[.int .i64 lo, .int .i64 hi]] w fun e w' => e = .returned (.bool true) ∧ Below w.heap.size w w' := by
  have d1 : decide (0 ≤ lo) = true := decide_eq_true h1
  have d2 : decide (lo ≤ hi) = true := decide_eq_true h2
  have d3 : decide (hi ≤ 240) = true := decide_eq_true h3
  go_enter Try.func57, Try.ntmps57
  go_wp2
  go_ret
  exact ⟨rfl, by repeat (first | (with_reducible exact HB.out) | (with_reducible apply below_alloc) | (with_reducible apply pw_below_drewN) | (with_reducible apply below_drew1) | (with_reducible exact Below.refl _ _))⟩
theorem within_calls (a b c : Int) (w : World) (h1 : b ≤ a) (h2 : a ≤ c) : Calls Try.prog 55 #[.int .i64 a, .int .i64 b, .int .i64 c] w fun e w' => e = .returned (.bool true) ∧ w = w' := by
  have d1 : decide (b ≤ a) = true := decide_eq_true h1
  have d2 : decide (a ≤ c) = true := decide_eq_true h2
  go_enter Try.func55, Try.ntmps55
  go_wp2
  go_ret
  exact ⟨rfl, rfl⟩
theorem tub_calls (a : Int) (w : World) (h1 : 0 ≤ a) (h2 : a ≤ 8) : Calls Try.prog 36 #[.int .i64 a] w fun e w' => e = .returned (.bool true) ∧ w = w' := by
  go_enter Try.func36, Try.ntmps36
  go_wp2_with (go_at_call 55; refine (within_calls _ _ _ _ h1 h2).mono ?_; rintro e w' ⟨rfl, rfl⟩)
  go_ret
  exact ⟨rfl, rfl⟩
set_option maxHeartbeats 400000 in
theorem valid_calls (tb hs : Int) (w : World) (h1 : 0 ≤ tb) (h2 : tb ≤ 8) (h3 : 0 ≤ hs) (h4 : hs ≤ 9) :
    Calls Try.prog 65 #[.agg #[.int .i64 tb, .int .i64 hs]] w fun e w' => e = .returned (.bool true) ∧ Below w.heap.size w w' := by
  go_enter Try.func65, Try.ntmps65
  go_wp2_with (first | (go_at_call 36; refine (tub_calls _ _ h1 h2).mono ?_; rintro e w' ⟨rfl, rfl⟩) | (go_at_call 55; refine (within_calls _ _ _ _ h3 h4).mono ?_; rintro e w' ⟨rfl, rfl⟩))
  go_ret
  exact ⟨rfl, by repeat (first | (with_reducible exact HB.out) | (with_reducible apply below_alloc) | (with_reducible apply pw_below_drewN) | (with_reducible apply below_drew1) | (with_reducible exact Below.refl _ _))⟩
set_option maxHeartbeats 400000 in
theorem ticket_calls (hr gr n : Int) (s2 s4 : Value) (A3 : Option Addr) (n3 c3 : Nat) (w : World) (o2 : s2.oneCell' = true) (o4 : s4.oneCell' = true) (h1 : 0 ≤ n) (h2 : n < n3) (hn3 : n3 ≤ 1000) :
    Calls Try.prog 39 #[.agg #[.int .i64 hr, .int .i64 gr, s2, .slice A3 n3 c3, s4], .int .i64 n] w fun e w' => e = .returned (.bool true) ∧ Below w.heap.size w w' := by
  go_enter Try.func39, Try.ntmps39
  go_wp2_with (go_at_call 55; refine (within_calls _ _ _ _ h1 (by omega)).mono ?_; rintro e w' ⟨rfl, rfl⟩)
  go_ret
  exact ⟨rfl, by repeat (first | (with_reducible exact HB.out) | (with_reducible apply below_alloc) | (with_reducible apply pw_below_drewN) | (with_reducible apply below_drew1) | (with_reducible exact Below.refl _ _))⟩

end Go.Proofs.Ytgdbnioodimlfaa.Wk
