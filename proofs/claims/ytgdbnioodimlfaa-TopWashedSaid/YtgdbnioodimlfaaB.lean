/- The contracts of slices.IndexFunc, slices.ContainsFunc and all, at four element types: where the test is true of each element, all returns true. Conditions stand in each theorem. -/
import Derived.Test.YtgdbnioodimlfaaSeq
import Derived.Test.YtgdbnioodimlfaaA2
namespace Go.Proofs.Ytgdbnioodimlfaa.Wk
open Go.RowKit Go.Proofs.YtgdbnioodimlfaaW.PrintWords Go.Proofs.YtgdbnioodimlfaaW.PrintLast Go.Proofs.YtgdbnioodimlfaaW.PrintMore Go.Proofs.Ytgdbnioodimlfaa.PTopWashed Go.Proofs.Ytgdbnioodimlfaa.Sq
attribute [local go_sem] max2_int min2_int max_two min_two max_three min_three max_four min_four
set_option linter.unusedVariables false
set_option linter.unusedSimpArgs false

def g53 (xs : List S53) (j : Nat) : S53 := xs.getD j z53
theorem at53 {w : World} {A : Option Addr} {n : Nat} {xs : List S53} (h : Kd.C k53 w A n xs) (j : Nat) (hj : j < n) : ∃ ad, A = some ad ∧ w.cell? (ad.add (j * 2)) = some (.int .i64 (g53 xs j).f0) ∧ w.cell? ⟨(ad.add (j * 2)).block, (ad.add (j * 2)).off + 1, none⟩ = some (.int .i64 (g53 xs j).f1) := by
  obtain ⟨ad, e, h0, h1⟩ := at_T53 h (j : Int) (by omega) (by omega)
  exact ⟨ad, e, h0, h1⟩
theorem g53_mem (xs : List S53) (j : Nat) (hj : j < xs.length) : g53 xs j ∈ xs := by
  unfold g53
  rw [List.getD_eq_getElem?_getD, List.getElem?_eq_getElem hj]
  exact List.getElem_mem hj

def g54 (xs : List S54) (j : Nat) : S54 := xs.getD j z54
theorem at54 {w : World} {A : Option Addr} {n : Nat} {xs : List S54} (h : Kd.C k54 w A n xs) (j : Nat) (hj : j < n) : ∃ ad, A = some ad ∧ w.cell? (ad.add (j * 2)) = some (.int .i64 (g54 xs j).f0) ∧ w.cell? ⟨(ad.add (j * 2)).block, (ad.add (j * 2)).off + 1, none⟩ = some (.int .i64 (g54 xs j).f1) := by
  obtain ⟨ad, e, h0, h1⟩ := at_T54 h (j : Int) (by omega) (by omega)
  exact ⟨ad, e, h0, h1⟩
theorem g54_mem (xs : List S54) (j : Nat) (hj : j < xs.length) : g54 xs j ∈ xs := by
  unfold g54
  rw [List.getD_eq_getElem?_getD, List.getElem?_eq_getElem hj]
  exact List.getElem_mem hj

def g58 (xs : List S58) (j : Nat) : S58 := xs.getD j z58
theorem at58 {w : World} {A : Option Addr} {n : Nat} {xs : List S58} (h : Kd.C k58 w A n xs) (j : Nat) (hj : j < n) : ∃ ad, A = some ad ∧ w.cell? (ad.add (j * 2)) = some (.int .i64 (g58 xs j).f0) ∧ w.cell? ⟨(ad.add (j * 2)).block, (ad.add (j * 2)).off + 1, none⟩ = some (.int .i64 (g58 xs j).f1) := by
  obtain ⟨ad, e, h0, h1⟩ := at_T58 h (j : Int) (by omega) (by omega)
  exact ⟨ad, e, h0, h1⟩
theorem g58_mem (xs : List S58) (j : Nat) (hj : j < xs.length) : g58 xs j ∈ xs := by
  unfold g58
  rw [List.getD_eq_getElem?_getD, List.getElem?_eq_getElem hj]
  exact List.getElem_mem hj

def g60 (xs : List S60) (j : Nat) : S60 := xs.getD j z60
theorem at60 {w : World} {A : Option Addr} {n : Nat} {xs : List S60} (h : Kd.C k60 w A n xs) (j : Nat) (hj : j < n) : ∃ ad, A = some ad ∧ w.cell? (ad.add (j * 3)) = some (.int .i64 (g60 xs j).f0) ∧ w.cell? ⟨(ad.add (j * 3)).block, (ad.add (j * 3)).off + 1, none⟩ = some (.int .i64 (g60 xs j).f1) ∧ w.cell? ⟨(ad.add (j * 3)).block, (ad.add (j * 3)).off + 2, none⟩ = some (.int .i64 (g60 xs j).f2) := by
  obtain ⟨ad, e, h0, h1, h2⟩ := at_T60 h (j : Int) (by omega) (by omega)
  exact ⟨ad, e, h0, h1, h2⟩
theorem g60_mem (xs : List S60) (j : Nat) (hj : j < xs.length) : g60 xs j ∈ xs := by
  unfold g60
  rw [List.getD_eq_getElem?_getD, List.getElem?_eq_getElem hj]
  exact List.getElem_mem hj

def g65 (xs : List S65) (j : Nat) : S65 := xs.getD j z65
theorem at65 {w : World} {A : Option Addr} {n : Nat} {xs : List S65} (h : Kd.C k65 w A n xs) (j : Nat) (hj : j < n) : ∃ ad, A = some ad ∧ w.cell? (ad.add (j * 2)) = some (.int .i64 (g65 xs j).f0) ∧ w.cell? ⟨(ad.add (j * 2)).block, (ad.add (j * 2)).off + 1, none⟩ = some (.int .i64 (g65 xs j).f1) := by
  obtain ⟨ad, e, h0, h1⟩ := at_T65 h (j : Int) (by omega) (by omega)
  exact ⟨ad, e, h0, h1⟩
theorem g65_mem (xs : List S65) (j : Nat) (hj : j < xs.length) : g65 xs j ∈ xs := by
  unfold g65
  rw [List.getD_eq_getElem?_getD, List.getElem?_eq_getElem hj]
  exact List.getElem_mem hj

def g73 (xs : List S73) (j : Nat) : S73 := xs.getD j z73
theorem at73 {w : World} {A : Option Addr} {n : Nat} {xs : List S73} (h : Kd.C k73 w A n xs) (j : Nat) (hj : j < n) : ∃ ad, A = some ad ∧ w.cell? (ad.add (j * 2)) = some (.int .i64 (g73 xs j).f0) ∧ w.cell? ⟨(ad.add (j * 2)).block, (ad.add (j * 2)).off + 1, none⟩ = some (.int .i64 (g73 xs j).f1) := by
  obtain ⟨ad, e, h0, h1⟩ := at_T73 h (j : Int) (by omega) (by omega)
  exact ⟨ad, e, h0, h1⟩
theorem g73_mem (xs : List S73) (j : Nat) (hj : j < xs.length) : g73 xs j ∈ xs := by
  unfold g73
  rw [List.getD_eq_getElem?_getD, List.getElem?_eq_getElem hj]
  exact List.getElem_mem hj

def g74 (xs : List S74) (j : Nat) : S74 := xs.getD j z74
theorem at74 {w : World} {A : Option Addr} {n : Nat} {xs : List S74} (h : Kd.C k74 w A n xs) (j : Nat) (hj : j < n) : ∃ ad, A = some ad ∧ w.cell? (ad.add (j * 3)) = some (.int .i64 (g74 xs j).f0) ∧ w.cell? ⟨(ad.add (j * 3)).block, (ad.add (j * 3)).off + 1, none⟩ = some (.int .i64 (g74 xs j).f1) ∧ w.cell? ⟨(ad.add (j * 3)).block, (ad.add (j * 3)).off + 2, none⟩ = some (.int .i64 (g74 xs j).f2) := by
  obtain ⟨ad, e, h0, h1, h2⟩ := at_T74 h (j : Int) (by omega) (by omega)
  exact ⟨ad, e, h0, h1, h2⟩
theorem g74_mem (xs : List S74) (j : Nat) (hj : j < xs.length) : g74 xs j ∈ xs := by
  unfold g74
  rw [List.getD_eq_getElem?_getD, List.getElem?_eq_getElem hj]
  exact List.getElem_mem hj

set_option maxHeartbeats 400000 in
theorem idx81_calls (xs : List S53) (A : Option Addr) (c : Nat) (pb : Addr) (w : World) (hr : Kd.C k53 w A xs.length xs) (h63 : xs.length ≤ 1000)
    (hp : ∀ x, x ∈ xs → ∀ W, Below w.heap.size w W → Calls Try.prog 73 #[.agg #[.int .i64 (x).f0, .int .i64 (x).f1], .pointer (some pb)] W fun e w' => e = .returned (.bool false) ∧ Below W.heap.size W w') :
    Calls Try.prog 81 #[.slice A xs.length c, .func (.func 73) #[] #[.pointer (some pb)]] w fun e w' => e = .returned (.int .i64 (-1)) ∧ Below w.heap.size w w' := by
  have HR := Aside0.mk hr
  have HP := Aside0.mk hp
  clear hr hp
  go_enter Try.func81, Try.ntmps81
  go_wp2
  go_loopg [8] xs.length (fun kq v8 w' => ∃ j : Nat, v8 = .int .i64 (j : Int) ∧ Aside0 (j + kq = xs.length) ∧ Aside0 (Below w.heap.size w w'))
  case atStart => exact ⟨0, rfl, ⟨by omega⟩, ⟨Below.refl _ _⟩⟩
  case round =>
    obtain ⟨j, rfl, HK, HB⟩ := hrel
    by_cases hlt : j < xs.length
    · obtain ⟨ad, e2, hx0, hx1⟩ := at53 HR.out j hlt
      cases e2
      have HM := Aside0.mk (g53_mem xs j hlt)
      generalize g53 xs j = x at hx0 hx1 HM
      replace hx0 := (HB.out.cell (World.block_lt_of_cell? w _ hx0)).trans hx0; replace hx1 := (HB.out.cell (World.block_lt_of_cell? w _ hx1)).trans hx1
      obtain ⟨k1, rfl⟩ : ∃ k1, gk = k1 + 1 := ⟨gk - 1, by have := HK.out; omega⟩
      go_wp2_with (go_at_call 73; refine (HP.out x HM.out _ HB.out).mono ?_; rintro e w2 ⟨rfl, hb⟩; have HB2 := Aside0.mk (below_step HB.out hb); clear hb)
      go_roundg k1
      case measure => omega
      case rel => exact ⟨j + 1, by go_num, ⟨by have := HK.out; omega⟩, HB2⟩
    · go_wp2
      go_ret
      exact ⟨rfl, HB.out⟩
set_option maxHeartbeats 400000 in
theorem cont72_calls (xs : List S53) (A : Option Addr) (c : Nat) (pb : Addr) (w : World) (hr : Kd.C k53 w A xs.length xs) (h63 : xs.length ≤ 1000)
    (hp : ∀ x, x ∈ xs → ∀ W, Below w.heap.size w W → Calls Try.prog 73 #[.agg #[.int .i64 (x).f0, .int .i64 (x).f1], .pointer (some pb)] W fun e w' => e = .returned (.bool false) ∧ Below W.heap.size W w') :
    Calls Try.prog 72 #[.slice A xs.length c, .func (.func 73) #[] #[.pointer (some pb)]] w fun e w' => e = .returned (.bool false) ∧ Below w.heap.size w w' := by
  have HC := Aside0.mk (idx81_calls xs A c pb w hr h63 hp)
  clear hr hp
  go_enter Try.func72, Try.ntmps72
  go_wp2_with (go_at_call 81; refine HC.out.mono ?_; rintro e w2 ⟨rfl, hb⟩; have HB := Aside0.mk hb; clear hb)
  go_ret
  exact ⟨rfl, HB.out⟩
set_option maxHeartbeats 400000 in
theorem clo73_calls (x : S53) (b : Nat) (w : World) (hc : w.cell? ⟨b, 0, none⟩ = some (.func (.func 57) #[.int .i64 240] #[]))
    (hp : ∀ W, Below w.heap.size w W → Calls Try.prog 57 (#[.int .i64 240] ++ #[.agg #[.int .i64 (x).f0, .int .i64 (x).f1]]) W fun e w' => e = .returned (.bool true) ∧ Below W.heap.size W w') :
    Calls Try.prog 73 #[.agg #[.int .i64 (x).f0, .int .i64 (x).f1], .pointer (some ⟨b, 0, none⟩)] w fun e w' => e = .returned (.bool false) ∧ Below w.heap.size w w' := by
  have HP := Aside0.mk hp
  clear hp
  have hc2 := fun o => (World.cell?_alloc_lt w o ⟨b, 0, none⟩ (World.block_lt_of_cell? w _ hc)).trans hc
  go_enter Try.func73, Try.ntmps73
  go_wp2_with (go_at_call 57; refine (HP.out _ (below_alloc (Below.refl _ _) _)).mono ?_; rintro e w2 ⟨rfl, hb⟩; have HB := Aside0.mk (below_step (below_alloc (Below.refl _ _) _) hb); clear hb)
  go_ret
  exact ⟨rfl, HB.out⟩
set_option maxHeartbeats 400000 in
theorem all58_calls (xs : List S53) (A : Option Addr) (c : Nat) (w : World) (hr : Kd.C k53 w A xs.length xs) (h63 : xs.length ≤ 1000)
    (hp : ∀ x, x ∈ xs → ∀ W, Below w.heap.size w W → Calls Try.prog 57 (#[.int .i64 240] ++ #[.agg #[.int .i64 (x).f0, .int .i64 (x).f1]]) W fun e w' => e = .returned (.bool true) ∧ Below W.heap.size W w') :
    Calls Try.prog 58 #[.slice A xs.length c, .func (.func 57) #[.int .i64 240] #[]] w fun e w' => e = .returned (.bool true) ∧ Below w.heap.size w w' := by
  have HP := Aside0.mk hp
  have HR := Aside0.mk hr
  clear hp hr
  go_enter Try.func58, Try.ntmps58
  go_wp2_with (go_at_call 72; refine (cont72_calls xs A c ⟨w.heap.size, 0, none⟩ _ (Kd.C_below HR.out (below_alloc (Below.refl _ _) _)) h63 (fun x hx W hW => clo73_calls x w.heap.size W ?cell (fun W2 hW2 => HP.out x hx W2 (below_step (below_step (below_alloc (Below.refl _ _) _) hW) hW2)))).mono ?_; (case cell => exact ((At.new w _ _).below hW).cl 0); rintro e w2 ⟨rfl, hb⟩; have HB := Aside0.mk (below_step (below_alloc (Below.refl _ _) _) hb); clear hb)
  go_ret
  exact ⟨rfl, HB.out⟩

set_option maxHeartbeats 400000 in
theorem idx82_calls (xs : List S65) (A : Option Addr) (c : Nat) (pb : Addr) (w : World) (hr : Kd.C k65 w A xs.length xs) (h63 : xs.length ≤ 1000)
    (hp : ∀ x, x ∈ xs → ∀ W, Below w.heap.size w W → Calls Try.prog 76 #[.agg #[.int .i64 (x).f0, .int .i64 (x).f1], .pointer (some pb)] W fun e w' => e = .returned (.bool false) ∧ Below W.heap.size W w') :
    Calls Try.prog 82 #[.slice A xs.length c, .func (.func 76) #[] #[.pointer (some pb)]] w fun e w' => e = .returned (.int .i64 (-1)) ∧ Below w.heap.size w w' := by
  have HR := Aside0.mk hr
  have HP := Aside0.mk hp
  clear hr hp
  go_enter Try.func82, Try.ntmps82
  go_wp2
  go_loopg [8] xs.length (fun kq v8 w' => ∃ j : Nat, v8 = .int .i64 (j : Int) ∧ Aside0 (j + kq = xs.length) ∧ Aside0 (Below w.heap.size w w'))
  case atStart => exact ⟨0, rfl, ⟨by omega⟩, ⟨Below.refl _ _⟩⟩
  case round =>
    obtain ⟨j, rfl, HK, HB⟩ := hrel
    by_cases hlt : j < xs.length
    · obtain ⟨ad, e2, hx0, hx1⟩ := at65 HR.out j hlt
      cases e2
      have HM := Aside0.mk (g65_mem xs j hlt)
      generalize g65 xs j = x at hx0 hx1 HM
      replace hx0 := (HB.out.cell (World.block_lt_of_cell? w _ hx0)).trans hx0; replace hx1 := (HB.out.cell (World.block_lt_of_cell? w _ hx1)).trans hx1
      obtain ⟨k1, rfl⟩ : ∃ k1, gk = k1 + 1 := ⟨gk - 1, by have := HK.out; omega⟩
      go_wp2_with (go_at_call 76; refine (HP.out x HM.out _ HB.out).mono ?_; rintro e w2 ⟨rfl, hb⟩; have HB2 := Aside0.mk (below_step HB.out hb); clear hb)
      go_roundg k1
      case measure => omega
      case rel => exact ⟨j + 1, by go_num, ⟨by have := HK.out; omega⟩, HB2⟩
    · go_wp2
      go_ret
      exact ⟨rfl, HB.out⟩
set_option maxHeartbeats 400000 in
theorem cont75_calls (xs : List S65) (A : Option Addr) (c : Nat) (pb : Addr) (w : World) (hr : Kd.C k65 w A xs.length xs) (h63 : xs.length ≤ 1000)
    (hp : ∀ x, x ∈ xs → ∀ W, Below w.heap.size w W → Calls Try.prog 76 #[.agg #[.int .i64 (x).f0, .int .i64 (x).f1], .pointer (some pb)] W fun e w' => e = .returned (.bool false) ∧ Below W.heap.size W w') :
    Calls Try.prog 75 #[.slice A xs.length c, .func (.func 76) #[] #[.pointer (some pb)]] w fun e w' => e = .returned (.bool false) ∧ Below w.heap.size w w' := by
  have HC := Aside0.mk (idx82_calls xs A c pb w hr h63 hp)
  clear hr hp
  go_enter Try.func75, Try.ntmps75
  go_wp2_with (go_at_call 82; refine HC.out.mono ?_; rintro e w2 ⟨rfl, hb⟩; have HB := Aside0.mk hb; clear hb)
  go_ret
  exact ⟨rfl, HB.out⟩
set_option maxHeartbeats 400000 in
theorem clo76_calls (x : S65) (b : Nat) (w : World) (hc : w.cell? ⟨b, 0, none⟩ = some (.func (.func 63) #[] #[]))
    (hp : ∀ W, Below w.heap.size w W → Calls Try.prog 63 (#[] ++ #[.agg #[.int .i64 (x).f0, .int .i64 (x).f1]]) W fun e w' => e = .returned (.bool true) ∧ Below W.heap.size W w') :
    Calls Try.prog 76 #[.agg #[.int .i64 (x).f0, .int .i64 (x).f1], .pointer (some ⟨b, 0, none⟩)] w fun e w' => e = .returned (.bool false) ∧ Below w.heap.size w w' := by
  have HP := Aside0.mk hp
  clear hp
  have hc2 := fun o => (World.cell?_alloc_lt w o ⟨b, 0, none⟩ (World.block_lt_of_cell? w _ hc)).trans hc
  go_enter Try.func76, Try.ntmps76
  go_wp2_with (go_at_call 63; refine (HP.out _ (below_alloc (Below.refl _ _) _)).mono ?_; rintro e w2 ⟨rfl, hb⟩; have HB := Aside0.mk (below_step (below_alloc (Below.refl _ _) _) hb); clear hb)
  go_ret
  exact ⟨rfl, HB.out⟩
set_option maxHeartbeats 400000 in
theorem all62_calls (xs : List S65) (A : Option Addr) (c : Nat) (w : World) (hr : Kd.C k65 w A xs.length xs) (h63 : xs.length ≤ 1000)
    (hp : ∀ x, x ∈ xs → ∀ W, Below w.heap.size w W → Calls Try.prog 63 (#[] ++ #[.agg #[.int .i64 (x).f0, .int .i64 (x).f1]]) W fun e w' => e = .returned (.bool true) ∧ Below W.heap.size W w') :
    Calls Try.prog 62 #[.slice A xs.length c, .func (.func 63) #[] #[]] w fun e w' => e = .returned (.bool true) ∧ Below w.heap.size w w' := by
  have HP := Aside0.mk hp
  have HR := Aside0.mk hr
  clear hp hr
  go_enter Try.func62, Try.ntmps62
  go_wp2_with (go_at_call 75; refine (cont75_calls xs A c ⟨w.heap.size, 0, none⟩ _ (Kd.C_below HR.out (below_alloc (Below.refl _ _) _)) h63 (fun x hx W hW => clo76_calls x w.heap.size W ?cell (fun W2 hW2 => HP.out x hx W2 (below_step (below_step (below_alloc (Below.refl _ _) _) hW) hW2)))).mono ?_; (case cell => exact ((At.new w _ _).below hW).cl 0); rintro e w2 ⟨rfl, hb⟩; have HB := Aside0.mk (below_step (below_alloc (Below.refl _ _) _) hb); clear hb)
  go_ret
  exact ⟨rfl, HB.out⟩

set_option maxHeartbeats 400000 in
theorem idx83_calls (xs : List S73) (A : Option Addr) (c : Nat) (pb : Addr) (w : World) (hr : Kd.C k73 w A xs.length xs) (h63 : xs.length ≤ 1000)
    (hp : ∀ x, x ∈ xs → ∀ W, Below w.heap.size w W → Calls Try.prog 78 #[.agg #[.int .i64 (x).f0, .int .i64 (x).f1], .pointer (some pb)] W fun e w' => e = .returned (.bool false) ∧ Below W.heap.size W w') :
    Calls Try.prog 83 #[.slice A xs.length c, .func (.func 78) #[] #[.pointer (some pb)]] w fun e w' => e = .returned (.int .i64 (-1)) ∧ Below w.heap.size w w' := by
  have HR := Aside0.mk hr
  have HP := Aside0.mk hp
  clear hr hp
  go_enter Try.func83, Try.ntmps83
  go_wp2
  go_loopg [8] xs.length (fun kq v8 w' => ∃ j : Nat, v8 = .int .i64 (j : Int) ∧ Aside0 (j + kq = xs.length) ∧ Aside0 (Below w.heap.size w w'))
  case atStart => exact ⟨0, rfl, ⟨by omega⟩, ⟨Below.refl _ _⟩⟩
  case round =>
    obtain ⟨j, rfl, HK, HB⟩ := hrel
    by_cases hlt : j < xs.length
    · obtain ⟨ad, e2, hx0, hx1⟩ := at73 HR.out j hlt
      cases e2
      have HM := Aside0.mk (g73_mem xs j hlt)
      generalize g73 xs j = x at hx0 hx1 HM
      replace hx0 := (HB.out.cell (World.block_lt_of_cell? w _ hx0)).trans hx0; replace hx1 := (HB.out.cell (World.block_lt_of_cell? w _ hx1)).trans hx1
      obtain ⟨k1, rfl⟩ : ∃ k1, gk = k1 + 1 := ⟨gk - 1, by have := HK.out; omega⟩
      go_wp2_with (go_at_call 78; refine (HP.out x HM.out _ HB.out).mono ?_; rintro e w2 ⟨rfl, hb⟩; have HB2 := Aside0.mk (below_step HB.out hb); clear hb)
      go_roundg k1
      case measure => omega
      case rel => exact ⟨j + 1, by go_num, ⟨by have := HK.out; omega⟩, HB2⟩
    · go_wp2
      go_ret
      exact ⟨rfl, HB.out⟩
set_option maxHeartbeats 400000 in
theorem cont77_calls (xs : List S73) (A : Option Addr) (c : Nat) (pb : Addr) (w : World) (hr : Kd.C k73 w A xs.length xs) (h63 : xs.length ≤ 1000)
    (hp : ∀ x, x ∈ xs → ∀ W, Below w.heap.size w W → Calls Try.prog 78 #[.agg #[.int .i64 (x).f0, .int .i64 (x).f1], .pointer (some pb)] W fun e w' => e = .returned (.bool false) ∧ Below W.heap.size W w') :
    Calls Try.prog 77 #[.slice A xs.length c, .func (.func 78) #[] #[.pointer (some pb)]] w fun e w' => e = .returned (.bool false) ∧ Below w.heap.size w w' := by
  have HC := Aside0.mk (idx83_calls xs A c pb w hr h63 hp)
  clear hr hp
  go_enter Try.func77, Try.ntmps77
  go_wp2_with (go_at_call 83; refine HC.out.mono ?_; rintro e w2 ⟨rfl, hb⟩; have HB := Aside0.mk hb; clear hb)
  go_ret
  exact ⟨rfl, HB.out⟩
set_option maxHeartbeats 400000 in
theorem clo78_calls (x : S73) (b : Nat) (w : World) (hc : w.cell? ⟨b, 0, none⟩ = some (.func (.func 65) #[] #[]))
    (hp : ∀ W, Below w.heap.size w W → Calls Try.prog 65 (#[] ++ #[.agg #[.int .i64 (x).f0, .int .i64 (x).f1]]) W fun e w' => e = .returned (.bool true) ∧ Below W.heap.size W w') :
    Calls Try.prog 78 #[.agg #[.int .i64 (x).f0, .int .i64 (x).f1], .pointer (some ⟨b, 0, none⟩)] w fun e w' => e = .returned (.bool false) ∧ Below w.heap.size w w' := by
  have HP := Aside0.mk hp
  clear hp
  have hc2 := fun o => (World.cell?_alloc_lt w o ⟨b, 0, none⟩ (World.block_lt_of_cell? w _ hc)).trans hc
  go_enter Try.func78, Try.ntmps78
  go_wp2_with (go_at_call 65; refine (HP.out _ (below_alloc (Below.refl _ _) _)).mono ?_; rintro e w2 ⟨rfl, hb⟩; have HB := Aside0.mk (below_step (below_alloc (Below.refl _ _) _) hb); clear hb)
  go_ret
  exact ⟨rfl, HB.out⟩
set_option maxHeartbeats 400000 in
theorem all64_calls (xs : List S73) (A : Option Addr) (c : Nat) (w : World) (hr : Kd.C k73 w A xs.length xs) (h63 : xs.length ≤ 1000)
    (hp : ∀ x, x ∈ xs → ∀ W, Below w.heap.size w W → Calls Try.prog 65 (#[] ++ #[.agg #[.int .i64 (x).f0, .int .i64 (x).f1]]) W fun e w' => e = .returned (.bool true) ∧ Below W.heap.size W w') :
    Calls Try.prog 64 #[.slice A xs.length c, .func (.func 65) #[] #[]] w fun e w' => e = .returned (.bool true) ∧ Below w.heap.size w w' := by
  have HP := Aside0.mk hp
  have HR := Aside0.mk hr
  clear hp hr
  go_enter Try.func64, Try.ntmps64
  go_wp2_with (go_at_call 77; refine (cont77_calls xs A c ⟨w.heap.size, 0, none⟩ _ (Kd.C_below HR.out (below_alloc (Below.refl _ _) _)) h63 (fun x hx W hW => clo78_calls x w.heap.size W ?cell (fun W2 hW2 => HP.out x hx W2 (below_step (below_step (below_alloc (Below.refl _ _) _) hW) hW2)))).mono ?_; (case cell => exact ((At.new w _ _).below hW).cl 0); rintro e w2 ⟨rfl, hb⟩; have HB := Aside0.mk (below_step (below_alloc (Below.refl _ _) _) hb); clear hb)
  go_ret
  exact ⟨rfl, HB.out⟩

set_option maxHeartbeats 400000 in
theorem idx84_calls (xs : List S74) (A : Option Addr) (c : Nat) (pb : Addr) (w : World) (hr : Kd.C k74 w A xs.length xs) (h63 : xs.length ≤ 1000)
    (hp : ∀ x, x ∈ xs → ∀ W, Below w.heap.size w W → Calls Try.prog 80 #[.agg #[.int .i64 (x).f0, .int .i64 (x).f1, .int .i64 (x).f2], .pointer (some pb)] W fun e w' => e = .returned (.bool false) ∧ Below W.heap.size W w') :
    Calls Try.prog 84 #[.slice A xs.length c, .func (.func 80) #[] #[.pointer (some pb)]] w fun e w' => e = .returned (.int .i64 (-1)) ∧ Below w.heap.size w w' := by
  have HR := Aside0.mk hr
  have HP := Aside0.mk hp
  clear hr hp
  go_enter Try.func84, Try.ntmps84
  go_wp2
  go_loopg [8] xs.length (fun kq v8 w' => ∃ j : Nat, v8 = .int .i64 (j : Int) ∧ Aside0 (j + kq = xs.length) ∧ Aside0 (Below w.heap.size w w'))
  case atStart => exact ⟨0, rfl, ⟨by omega⟩, ⟨Below.refl _ _⟩⟩
  case round =>
    obtain ⟨j, rfl, HK, HB⟩ := hrel
    by_cases hlt : j < xs.length
    · obtain ⟨ad, e2, hx0, hx1, hx2⟩ := at74 HR.out j hlt
      cases e2
      have HM := Aside0.mk (g74_mem xs j hlt)
      generalize g74 xs j = x at hx0 hx1 hx2 HM
      replace hx0 := (HB.out.cell (World.block_lt_of_cell? w _ hx0)).trans hx0; replace hx1 := (HB.out.cell (World.block_lt_of_cell? w _ hx1)).trans hx1; replace hx2 := (HB.out.cell (World.block_lt_of_cell? w _ hx2)).trans hx2
      obtain ⟨k1, rfl⟩ : ∃ k1, gk = k1 + 1 := ⟨gk - 1, by have := HK.out; omega⟩
      go_wp2_with (go_at_call 80; refine (HP.out x HM.out _ HB.out).mono ?_; rintro e w2 ⟨rfl, hb⟩; have HB2 := Aside0.mk (below_step HB.out hb); clear hb)
      go_roundg k1
      case measure => omega
      case rel => exact ⟨j + 1, by go_num, ⟨by have := HK.out; omega⟩, HB2⟩
    · go_wp2
      go_ret
      exact ⟨rfl, HB.out⟩
set_option maxHeartbeats 400000 in
theorem cont79_calls (xs : List S74) (A : Option Addr) (c : Nat) (pb : Addr) (w : World) (hr : Kd.C k74 w A xs.length xs) (h63 : xs.length ≤ 1000)
    (hp : ∀ x, x ∈ xs → ∀ W, Below w.heap.size w W → Calls Try.prog 80 #[.agg #[.int .i64 (x).f0, .int .i64 (x).f1, .int .i64 (x).f2], .pointer (some pb)] W fun e w' => e = .returned (.bool false) ∧ Below W.heap.size W w') :
    Calls Try.prog 79 #[.slice A xs.length c, .func (.func 80) #[] #[.pointer (some pb)]] w fun e w' => e = .returned (.bool false) ∧ Below w.heap.size w w' := by
  have HC := Aside0.mk (idx84_calls xs A c pb w hr h63 hp)
  clear hr hp
  go_enter Try.func79, Try.ntmps79
  go_wp2_with (go_at_call 84; refine HC.out.mono ?_; rintro e w2 ⟨rfl, hb⟩; have HB := Aside0.mk hb; clear hb)
  go_ret
  exact ⟨rfl, HB.out⟩
set_option maxHeartbeats 400000 in
theorem clo80_calls (hv : Value) (x : S74) (b : Nat) (w : World) (hc : w.cell? ⟨b, 0, none⟩ = some (.func (.func 61) #[hv] #[]))
    (hp : ∀ W, Below w.heap.size w W → Calls Try.prog 61 (#[hv] ++ #[.agg #[.int .i64 (x).f0, .int .i64 (x).f1, .int .i64 (x).f2]]) W fun e w' => e = .returned (.bool true) ∧ Below W.heap.size W w') :
    Calls Try.prog 80 #[.agg #[.int .i64 (x).f0, .int .i64 (x).f1, .int .i64 (x).f2], .pointer (some ⟨b, 0, none⟩)] w fun e w' => e = .returned (.bool false) ∧ Below w.heap.size w w' := by
  have HP := Aside0.mk hp
  clear hp
  have hc2 := fun o => (World.cell?_alloc_lt w o ⟨b, 0, none⟩ (World.block_lt_of_cell? w _ hc)).trans hc
  go_enter Try.func80, Try.ntmps80
  go_wp2_with (go_at_call 61; refine (HP.out _ (below_alloc (Below.refl _ _) _)).mono ?_; rintro e w2 ⟨rfl, hb⟩; have HB := Aside0.mk (below_step (below_alloc (Below.refl _ _) _) hb); clear hb)
  go_ret
  exact ⟨rfl, HB.out⟩
set_option maxHeartbeats 400000 in
theorem all66_calls (hv : Value) (xs : List S74) (A : Option Addr) (c : Nat) (w : World) (hr : Kd.C k74 w A xs.length xs) (h63 : xs.length ≤ 1000)
    (hp : ∀ x, x ∈ xs → ∀ W, Below w.heap.size w W → Calls Try.prog 61 (#[hv] ++ #[.agg #[.int .i64 (x).f0, .int .i64 (x).f1, .int .i64 (x).f2]]) W fun e w' => e = .returned (.bool true) ∧ Below W.heap.size W w') :
    Calls Try.prog 66 #[.slice A xs.length c, .func (.func 61) #[hv] #[]] w fun e w' => e = .returned (.bool true) ∧ Below w.heap.size w w' := by
  have HP := Aside0.mk hp
  have HR := Aside0.mk hr
  clear hp hr
  go_enter Try.func66, Try.ntmps66
  go_wp2_with (go_at_call 79; refine (cont79_calls xs A c ⟨w.heap.size, 0, none⟩ _ (Kd.C_below HR.out (below_alloc (Below.refl _ _) _)) h63 (fun x hx W hW => clo80_calls hv x w.heap.size W ?cell (fun W2 hW2 => HP.out x hx W2 (below_step (below_step (below_alloc (Below.refl _ _) _) hW) hW2)))).mono ?_; (case cell => exact ((At.new w _ _).below hW).cl 0); rintro e w2 ⟨rfl, hb⟩; have HB := Aside0.mk (below_step (below_alloc (Below.refl _ _) _) hb); clear hb)
  go_ret
  exact ⟨rfl, HB.out⟩

end Go.Proofs.Ytgdbnioodimlfaa.Wk
