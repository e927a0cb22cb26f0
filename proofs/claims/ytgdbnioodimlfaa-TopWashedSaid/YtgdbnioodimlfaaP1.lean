/- Rows of structs of integers that a call made, read as slices. Conditions stand in each theorem. -/
import Derived.Test.YtgdbnioodimlfaaSeq
import Derived.Test.YtgdbnioodimlfaaN8
namespace Go.Proofs.Ytgdbnioodimlfaa.Wk
open Go.RowKit Go.Proofs.YtgdbnioodimlfaaW.PrintWords Go.Proofs.YtgdbnioodimlfaaW.PrintLast Go.Proofs.YtgdbnioodimlfaaW.PrintMore Go.Proofs.Ytgdbnioodimlfaa.PTopWashed Go.Proofs.Ytgdbnioodimlfaa.Sq
attribute [local go_sem] max2_int min2_int max_two min_two max_three min_three max_four min_four
set_option linter.unusedVariables false
set_option linter.unusedSimpArgs false

def raw2 (f g : Nat → Int) (n : Nat) : List Value := (List.range n).flatMap fun i => [.int .i64 (f i), .int .i64 (g i)]
def raw3 (f g h : Nat → Int) (n : Nat) : List Value := (List.range n).flatMap fun i => [.int .i64 (f i), .int .i64 (g i), .int .i64 (h i)]
theorem raw2_succ (f g : Nat → Int) (n : Nat) : raw2 f g (n + 1) = raw2 f g n ++ [.int .i64 (f n), .int .i64 (g n)] := by simp [raw2, List.range_succ, List.flatMap_append]
theorem raw3_succ (f g h : Nat → Int) (n : Nat) : raw3 f g h (n + 1) = raw3 f g h n ++ [.int .i64 (f n), .int .i64 (g n), .int .i64 (h n)] := by simp [raw3, List.range_succ, List.flatMap_append]
theorem raw2_len (f g : Nat → Int) (n : Nat) : (raw2 f g n).length = n * 2 := by
  induction n with
  | zero => rfl
  | succ n ih => rw [raw2_succ, List.length_append, ih]; simp; omega
theorem raw3_len (f g h : Nat → Int) (n : Nat) : (raw3 f g h n).length = n * 3 := by
  induction n with
  | zero => rfl
  | succ n ih => rw [raw3_succ, List.length_append, ih]; simp; omega
theorem raw2_get (f g : Nat → Int) (n j i : Nat) (hj : j < n) (u : Value) (hu : ([.int .i64 (f j), .int .i64 (g j)] : List Value)[i]? = some u) : (raw2 f g n)[j * 2 + i]? = some u := by
  have hi : i < 2 := (List.getElem?_eq_some_iff.1 hu).1
  induction n with
  | zero => omega
  | succ n ih =>
    rw [raw2_succ]
    by_cases h : j < n
    · rw [List.getElem?_append_left (by rw [raw2_len]; omega)]
      exact ih h
    · obtain rfl : j = n := by omega
      rw [List.getElem?_append_right (by rw [raw2_len]; omega), raw2_len, Nat.add_sub_cancel_left]
      exact hu
theorem raw3_get (f g h : Nat → Int) (n j i : Nat) (hj : j < n) (u : Value) (hu : ([.int .i64 (f j), .int .i64 (g j), .int .i64 (h j)] : List Value)[i]? = some u) : (raw3 f g h n)[j * 3 + i]? = some u := by
  have hi : i < 3 := (List.getElem?_eq_some_iff.1 hu).1
  induction n with
  | zero => omega
  | succ n ih =>
    rw [raw3_succ]
    by_cases hh : j < n
    · rw [List.getElem?_append_left (by rw [raw3_len]; omega)]
      exact ih hh
    · obtain rfl : j = n := by omega
      rw [List.getElem?_append_right (by rw [raw3_len]; omega), raw3_len, Nat.add_sub_cancel_left]
      exact hu
theorem C65_of_raw {w : World} {base n : Nat} {v : Value} {xs : List S65} (h : w.ownsRow base 65 2 v n (raw2 (fun i => (g65 xs i).f0) (fun i => (g65 xs i).f1) n)) (hx : xs.length = n) (hn : n ≤ 1000) : ∃ A cap, v = .slice A n cap ∧ n ≤ cap ∧ Kd.C k65 w A n xs := by
  obtain ⟨h1, ⟨rfl, rfl⟩ | ⟨g, cap, cur, rfl, h2, h3, h4, h5, h6, h7⟩⟩ := h
  · exact ⟨none, 0, rfl, Nat.le_refl _, hx, by omega, fun h => absurd h (by omega)⟩
  · refine ⟨_, cap, rfl, h4, hx, by omega, fun _ => ⟨_, rfl, fun j p hp => ⟨[.int .i64 p.f0, .int .i64 p.f1], rfl, k65_mk w p, fun i u hu => ?_⟩⟩⟩
    obtain ⟨hj, e⟩ := List.getElem?_eq_some_iff.1 hp
    have e2 : (⟨g, 0, none⟩ : Addr).add (j * k65.sz + i) = ⟨g, j * 2 + i, none⟩ := by rw [add_plain]; simp [show k65.sz = 2 from rfl]
    rw [e2, cell_of_row w g _ cur 65 (0, 0) h3]
    refine take_get h7 _ _ (raw2_get (fun i => (g65 xs i).f0) (fun i => (g65 xs i).f1) n j i (by omega) u ?_)
    have e3 : g65 xs j = p := by unfold g65; rw [List.getD_eq_getElem?_getD, hp]; rfl
    rw [e3]
    exact hu
theorem C73_of_raw {w : World} {base n : Nat} {v : Value} {xs : List S73} (h : w.ownsRow base 73 2 v n (raw2 (fun i => (g73 xs i).f0) (fun i => (g73 xs i).f1) n)) (hx : xs.length = n) (hn : n ≤ 1000) : ∃ A cap, v = .slice A n cap ∧ n ≤ cap ∧ Kd.C k73 w A n xs := by
  obtain ⟨h1, ⟨rfl, rfl⟩ | ⟨g, cap, cur, rfl, h2, h3, h4, h5, h6, h7⟩⟩ := h
  · exact ⟨none, 0, rfl, Nat.le_refl _, hx, by omega, fun h => absurd h (by omega)⟩
  · refine ⟨_, cap, rfl, h4, hx, by omega, fun _ => ⟨_, rfl, fun j p hp => ⟨[.int .i64 p.f0, .int .i64 p.f1], rfl, k73_mk w p, fun i u hu => ?_⟩⟩⟩
    obtain ⟨hj, e⟩ := List.getElem?_eq_some_iff.1 hp
    have e2 : (⟨g, 0, none⟩ : Addr).add (j * k73.sz + i) = ⟨g, j * 2 + i, none⟩ := by rw [add_plain]; simp [show k73.sz = 2 from rfl]
    rw [e2, cell_of_row w g _ cur 73 (0, 0) h3]
    refine take_get h7 _ _ (raw2_get (fun i => (g73 xs i).f0) (fun i => (g73 xs i).f1) n j i (by omega) u ?_)
    have e3 : g73 xs j = p := by unfold g73; rw [List.getD_eq_getElem?_getD, hp]; rfl
    rw [e3]
    exact hu
theorem C53_of_raw {w : World} {base n : Nat} {v : Value} {xs : List S53} (h : w.ownsRow base 53 2 v n (raw2 (fun i => (g53 xs i).f0) (fun i => (g53 xs i).f1) n)) (hx : xs.length = n) (hn : n ≤ 1000) : ∃ A cap, v = .slice A n cap ∧ n ≤ cap ∧ Kd.C k53 w A n xs := by
  obtain ⟨h1, ⟨rfl, rfl⟩ | ⟨g, cap, cur, rfl, h2, h3, h4, h5, h6, h7⟩⟩ := h
  · exact ⟨none, 0, rfl, Nat.le_refl _, hx, by omega, fun h => absurd h (by omega)⟩
  · refine ⟨_, cap, rfl, h4, hx, by omega, fun _ => ⟨_, rfl, fun j p hp => ⟨[.int .i64 p.f0, .int .i64 p.f1], rfl, k53_mk w p, fun i u hu => ?_⟩⟩⟩
    obtain ⟨hj, e⟩ := List.getElem?_eq_some_iff.1 hp
    have e2 : (⟨g, 0, none⟩ : Addr).add (j * k53.sz + i) = ⟨g, j * 2 + i, none⟩ := by rw [add_plain]; simp [show k53.sz = 2 from rfl]
    rw [e2, cell_of_row w g _ cur 53 (0, 0) h3]
    refine take_get h7 _ _ (raw2_get (fun i => (g53 xs i).f0) (fun i => (g53 xs i).f1) n j i (by omega) u ?_)
    have e3 : g53 xs j = p := by unfold g53; rw [List.getD_eq_getElem?_getD, hp]; rfl
    rw [e3]
    exact hu
theorem C54_of_raw {w : World} {base n : Nat} {v : Value} {xs : List S54} (h : w.ownsRow base 54 2 v n (raw2 (fun i => (g54 xs i).f0) (fun i => (g54 xs i).f1) n)) (hx : xs.length = n) (hn : n ≤ 1000) : ∃ A cap, v = .slice A n cap ∧ n ≤ cap ∧ Kd.C k54 w A n xs := by
  obtain ⟨h1, ⟨rfl, rfl⟩ | ⟨g, cap, cur, rfl, h2, h3, h4, h5, h6, h7⟩⟩ := h
  · exact ⟨none, 0, rfl, Nat.le_refl _, hx, by omega, fun h => absurd h (by omega)⟩
  · refine ⟨_, cap, rfl, h4, hx, by omega, fun _ => ⟨_, rfl, fun j p hp => ⟨[.int .i64 p.f0, .int .i64 p.f1], rfl, k54_mk w p, fun i u hu => ?_⟩⟩⟩
    obtain ⟨hj, e⟩ := List.getElem?_eq_some_iff.1 hp
    have e2 : (⟨g, 0, none⟩ : Addr).add (j * k54.sz + i) = ⟨g, j * 2 + i, none⟩ := by rw [add_plain]; simp [show k54.sz = 2 from rfl]
    rw [e2, cell_of_row w g _ cur 54 (0, 0) h3]
    refine take_get h7 _ _ (raw2_get (fun i => (g54 xs i).f0) (fun i => (g54 xs i).f1) n j i (by omega) u ?_)
    have e3 : g54 xs j = p := by unfold g54; rw [List.getD_eq_getElem?_getD, hp]; rfl
    rw [e3]
    exact hu
theorem C58_of_raw {w : World} {base n : Nat} {v : Value} {xs : List S58} (h : w.ownsRow base 58 2 v n (raw2 (fun i => (g58 xs i).f0) (fun i => (g58 xs i).f1) n)) (hx : xs.length = n) (hn : n ≤ 1000) : ∃ A cap, v = .slice A n cap ∧ n ≤ cap ∧ Kd.C k58 w A n xs := by
  obtain ⟨h1, ⟨rfl, rfl⟩ | ⟨g, cap, cur, rfl, h2, h3, h4, h5, h6, h7⟩⟩ := h
  · exact ⟨none, 0, rfl, Nat.le_refl _, hx, by omega, fun h => absurd h (by omega)⟩
  · refine ⟨_, cap, rfl, h4, hx, by omega, fun _ => ⟨_, rfl, fun j p hp => ⟨[.int .i64 p.f0, .int .i64 p.f1], rfl, k58_mk w p, fun i u hu => ?_⟩⟩⟩
    obtain ⟨hj, e⟩ := List.getElem?_eq_some_iff.1 hp
    have e2 : (⟨g, 0, none⟩ : Addr).add (j * k58.sz + i) = ⟨g, j * 2 + i, none⟩ := by rw [add_plain]; simp [show k58.sz = 2 from rfl]
    rw [e2, cell_of_row w g _ cur 58 (0, 0) h3]
    refine take_get h7 _ _ (raw2_get (fun i => (g58 xs i).f0) (fun i => (g58 xs i).f1) n j i (by omega) u ?_)
    have e3 : g58 xs j = p := by unfold g58; rw [List.getD_eq_getElem?_getD, hp]; rfl
    rw [e3]
    exact hu
theorem C74_of_raw {w : World} {base n : Nat} {v : Value} {xs : List S74} (h : w.ownsRow base 74 3 v n (raw3 (fun i => (g74 xs i).f0) (fun i => (g74 xs i).f1) (fun i => (g74 xs i).f2) n)) (hx : xs.length = n) (hn : n ≤ 1000) : ∃ A cap, v = .slice A n cap ∧ n ≤ cap ∧ Kd.C k74 w A n xs := by
  obtain ⟨h1, ⟨rfl, rfl⟩ | ⟨g, cap, cur, rfl, h2, h3, h4, h5, h6, h7⟩⟩ := h
  · exact ⟨none, 0, rfl, Nat.le_refl _, hx, by omega, fun h => absurd h (by omega)⟩
  · refine ⟨_, cap, rfl, h4, hx, by omega, fun _ => ⟨_, rfl, fun j p hp => ⟨[.int .i64 p.f0, .int .i64 p.f1, .int .i64 p.f2], rfl, k74_mk w p, fun i u hu => ?_⟩⟩⟩
    obtain ⟨hj, e⟩ := List.getElem?_eq_some_iff.1 hp
    have e2 : (⟨g, 0, none⟩ : Addr).add (j * k74.sz + i) = ⟨g, j * 3 + i, none⟩ := by rw [add_plain]; simp [show k74.sz = 3 from rfl]
    rw [e2, cell_of_row w g _ cur 74 (0, 0) h3]
    refine take_get h7 _ _ (raw3_get (fun i => (g74 xs i).f0) (fun i => (g74 xs i).f1) (fun i => (g74 xs i).f2) n j i (by omega) u ?_)
    have e3 : g74 xs j = p := by unfold g74; rw [List.getD_eq_getElem?_getD, hp]; rfl
    rw [e3]
    exact hu
theorem C60_of_raw {w : World} {base n : Nat} {v : Value} {xs : List S60} (h : w.ownsRow base 60 3 v n (raw3 (fun i => (g60 xs i).f0) (fun i => (g60 xs i).f1) (fun i => (g60 xs i).f2) n)) (hx : xs.length = n) (hn : n ≤ 1000) : ∃ A cap, v = .slice A n cap ∧ n ≤ cap ∧ Kd.C k60 w A n xs := by
  obtain ⟨h1, ⟨rfl, rfl⟩ | ⟨g, cap, cur, rfl, h2, h3, h4, h5, h6, h7⟩⟩ := h
  · exact ⟨none, 0, rfl, Nat.le_refl _, hx, by omega, fun h => absurd h (by omega)⟩
  · refine ⟨_, cap, rfl, h4, hx, by omega, fun _ => ⟨_, rfl, fun j p hp => ⟨[.int .i64 p.f0, .int .i64 p.f1, .int .i64 p.f2], rfl, k60_mk w p, fun i u hu => ?_⟩⟩⟩
    obtain ⟨hj, e⟩ := List.getElem?_eq_some_iff.1 hp
    have e2 : (⟨g, 0, none⟩ : Addr).add (j * k60.sz + i) = ⟨g, j * 3 + i, none⟩ := by rw [add_plain]; simp [show k60.sz = 3 from rfl]
    rw [e2, cell_of_row w g _ cur 60 (0, 0) h3]
    refine take_get h7 _ _ (raw3_get (fun i => (g60 xs i).f0) (fun i => (g60 xs i).f1) (fun i => (g60 xs i).f2) n j i (by omega) u ?_)
    have e3 : g60 xs j = p := by unfold g60; rw [List.getD_eq_getElem?_getD, hp]; rfl
    rw [e3]
    exact hu

end Go.Proofs.Ytgdbnioodimlfaa.Wk
