/- Plain laws, with no program in sight: floors and houses of the reference as those of the program. Conditions stand in each theorem. -/
import Derived.Test.YtgdbnioodimlfaaSeq
import Derived.Test.YtgdbnioodimlfaaN8
import Derived.Test.YtgdbnioodimlfaaQ4
namespace Go.Proofs.Ytgdbnioodimlfaa.Wk
open Go.RowKit Go.Proofs.YtgdbnioodimlfaaW.PrintWords Go.Proofs.YtgdbnioodimlfaaW.PrintLast Go.Proofs.YtgdbnioodimlfaaW.PrintMore Go.Proofs.Ytgdbnioodimlfaa.PTopWashed Go.Proofs.Ytgdbnioodimlfaa.Sq
attribute [local go_sem] max2_int min2_int max_two min_two max_three min_three max_four min_four
set_option linter.unusedVariables false
set_option linter.unusedSimpArgs false

def m65 (x : S54) : S65 := ⟨x.f0, x.f1⟩
def m53 (x : S54) : S53 := ⟨x.f0, x.f1⟩
def m73 (x : S58) : S73 := ⟨x.f0, x.f1⟩
def m74 (x : S60) : S74 := ⟨x.f0, x.f1, x.f2⟩
def kll (t : List Int) : List S54 := t.map fun v => ⟨v, v⟩
theorem getD_m {α β : Type} (f : α → β) (a : α) (b : β) (h : f a = b) (xs : List α) (i : Nat) : (xs.map f).getD i b = f (xs.getD i a) := by
  rw [List.getD_eq_getElem?_getD, List.getD_eq_getElem?_getD, List.getElem?_map]
  cases xs[i]? with
  | none => exact h.symm
  | some x => rfl
theorem g65_m (xs : List S54) (i : Nat) : g65 (xs.map m65) i = m65 (g54 xs i) := getD_m m65 z54 z65 rfl xs i
theorem g53_m (xs : List S54) (i : Nat) : g53 (xs.map m53) i = m53 (g54 xs i) := getD_m m53 z54 z53 rfl xs i
theorem g73_m (xs : List S58) (i : Nat) : g73 (xs.map m73) i = m73 (g58 xs i) := getD_m m73 z58 z73 rfl xs i
theorem g74_m (xs : List S60) (i : Nat) : g74 (xs.map m74) i = m74 (g60 xs i) := getD_m m74 z60 z74 rfl xs i
theorem g54_kll (t : List Int) (i : Nat) : g54 (kll t) i = ⟨gi t i, gi t i⟩ := getD_m (fun v : Int => (⟨v, v⟩ : S54)) 0 z54 rfl t i
theorem kll_len (t : List Int) : (kll t).length = t.length := by simp [kll]
theorem ofL_m (kc : List S60) (i : Int) : ofL (kc.map m74) i = (kc.filter fun c => c.f0 == i).map m74 := by
  unfold ofL
  rw [List.filter_map]
  rfl
theorem ofL_len (kc : List S60) (i : Int) : (ofL (kc.map m74) i).length = of60 kc i := by rw [ofL_m, List.length_map]; rfl
theorem sel_gi (t : List Int) (i : Int) (h4 : i.toNat < 4) : sel4 (gi t 0) (gi t 1) (gi t 2) (gi t 3) i = gi t i.toNat := by
  unfold sel4
  match i.toNat, h4 with
  | 0, _ => rfl
  | 1, _ => rfl
  | 2, _ => rfl
  | 3, _ => rfl
theorem tm_m (t : List Int) (kc : List S60) (i : Nat) (h : (g60 kc i).f1.toNat < 4) : tm (gi t 0) (gi t 1) (gi t 2) (gi t 3) (g74 (kc.map m74) i) = tr t kc i := by
  rw [g74_m]
  unfold tm tr
  rw [show (m74 (g60 kc i)).f1 = (g60 kc i).f1 from rfl, sel_gi t _ h]
  rfl

section
variable {hr gr : Int} {kl : List S54} {kt : List S58} {kc : List S60} {tubs op clo : Int} {kq : List S54} {all : List (List Int)} {t : List Int}
theorem Vho.one (V : Vho hr gr kl kt kc) (E : IsErr kl t) : Vho hr gr (kll t) kt kc where
  V := by
    refine ⟨by rw [kll_len, E.1]; exact V.V.1, fun x hx => ?_⟩
    obtain ⟨v, hv, rfl⟩ := List.mem_map.1 hx
    obtain ⟨i, hi, rfl⟩ := List.getElem_of_mem hv
    have h1 := E.2 i (by rw [← E.1]; exact hi)
    have h2 := V.V.at i (by rw [← E.1]; exact hi)
    have h3 : gi t i = t[i] := by unfold gi; rw [List.getD_eq_getElem?_getD, List.getElem?_eq_getElem hi]; rfl
    rw [h3] at h1
    exact ⟨by dsimp; omega, Int.le_refl _, by dsimp; omega⟩
  n3 := V.n3
  C := by rw [kll_len, E.1]; exact V.C
  hr1 := V.hr1
  hr2 := V.hr2
  gr1 := V.gr1
  gr2 := V.gr2
  ti := V.ti
  of := V.of
theorem gi_bd (V : Vcl (kll t)) (i : Nat) : -30 ≤ gi t i ∧ gi t i ≤ 30 := by
  by_cases h : i < (kll t).length
  · have h1 := V.at i h
    rw [g54_kll] at h1
    exact ⟨h1.1, h1.2.2⟩
  · rw [kll_len] at h
    have : gi t i = 0 := by unfold gi; rw [List.getD_eq_getElem?_getD, List.getElem?_eq_none (by omega)]; rfl
    omega
theorem tr_of (V : Vho hr gr (kll t) kt kc) (R : ∀ p q, q < p → p < kc.length → tr t kc q ≤ tr t kc p) : Tr (gi t 0) (gi t 1) (gi t 2) (gi t 3) hr gr ((kll t).map m65) (kt.map m73) (kc.map m74) where
  O := {
    n2 := by rw [List.length_map]; exact V.V.1
    n3 := by rw [List.length_map]; exact V.n3
    n4 := by rw [List.length_map]; exact V.C.1
    hr1 := V.hr1
    hr2 := V.hr2
    gr1 := V.gr1
    gr2 := V.gr2
    cl1 := by
      intro x hx
      obtain ⟨y, hy, rfl⟩ := List.mem_map.1 hx
      have h1 := V.V.2 y hy
      obtain ⟨v, hv, rfl⟩ := List.mem_map.1 hy
      exact ⟨rfl, h1.1, h1.2.2⟩
    ti1 := by
      intro x hx
      obtain ⟨y, hy, rfl⟩ := List.mem_map.1 hx
      obtain ⟨i, hi, rfl⟩ := List.getElem_of_mem hy
      have h1 := V.ti i hi
      have h3 : g58 kt i = kt[i] := by unfold g58; rw [List.getD_eq_getElem?_getD, List.getElem?_eq_getElem hi]; rfl
      rw [h3] at h1
      exact h1
    cp1 := by
      intro x hx
      obtain ⟨y, hy, rfl⟩ := List.mem_map.1 hx
      have h1 := V.C.2 y hy
      rw [List.length_map, List.length_map]
      exact h1
    of2 := by
      intro i hi
      rw [ofL_len]
      exact V.of i (by rwa [List.length_map] at hi) }
  S := ⟨gi_bd V.V 0, gi_bd V.V 1, gi_bd V.V 2, gi_bd V.V 3⟩
  es := by
    intro i x hx
    rw [List.getElem?_map, kll, List.getElem?_map] at hx
    cases e : t[i]? with
    | none => rw [e] at hx; cases hx
    | some v =>
      rw [e] at hx
      injection hx with hx
      subst hx
      have hi : i < t.length := (List.getElem?_eq_some_iff.1 e).1
      have h4 : i < 4 := by have := V.V.1; rw [kll_len] at this; omega
      have hg : gi t i = v := by unfold gi; rw [List.getD_eq_getElem?_getD, e]; rfl
      rw [show (m65 ⟨v, v⟩).f0 = v from rfl, ← hg]
      match i, h4 with
      | 0, _ => rfl
      | 1, _ => rfl
      | 2, _ => rfl
      | 3, _ => rfl
  ez := by
    intro i h4 h
    rw [List.length_map, kll_len] at h
    have hg : gi t i = 0 := by unfold gi; rw [List.getD_eq_getElem?_getD, List.getElem?_eq_none (by omega)]; rfl
    rw [← hg]
    match i, h4 with
    | 0, _ => rfl
    | 1, _ => rfl
    | 2, _ => rfl
    | 3, _ => rfl
  R := by
    intro i j hij hj
    rw [List.length_map] at hj
    have hl := V.V.1
    have h1 := V.C.at i (by omega)
    have h2 := V.C.at j hj
    rw [tm_m t kc i (by omega), tm_m t kc j (by omega)]
    exact R j i hij hj
theorem of_tm (V : Vho hr gr (kll t) kt kc) (ho : ∀ i, i < kc.length → tr t kc i ≤ op) (i : Int) (j : Nat) (hj : j < (ofL (kc.map m74) i).length) : tm (gi t 0) (gi t 1) (gi t 2) (gi t 3) (g74 (ofL (kc.map m74) i) j) ≤ op := by
  have h1 := (List.mem_filter.1 (g74_mem (ofL (kc.map m74) i) j hj)).1
  obtain ⟨m, hm, e⟩ := List.getElem_of_mem h1
  have hm2 : m < kc.length := by rwa [List.length_map] at hm
  have h3 : g74 (kc.map m74) m = (kc.map m74)[m] := by unfold g74; rw [List.getD_eq_getElem?_getD, List.getElem?_eq_getElem hm]; rfl
  have hl := V.V.1
  have h4 := V.C.at m hm2
  rw [← e, ← h3, tm_m t kc m (by omega)]
  exact ho m hm2
theorem frm_le (V : Vho hr gr (kll t) kt kc) (ho : ∀ i, i < kc.length → tr t kc i ≤ op) (h0 : 0 ≤ op) (n : Int) : ∀ j, frmK (gi t 0) (gi t 1) (gi t 2) (gi t 3) (kt.map m73) (kc.map m74) n j ≤ op := by
  intro j
  induction j with
  | zero => exact h0
  | succ j ih =>
    unfold frmK
    split
    · rename_i h
      have h1 := of_tm V ho (j : Int) 1 (by omega)
      unfold mx
      split
      · exact h1
      · exact ih
    · exact ih
theorem flo_of (V : Vfl hr gr kl kt kc tubs op clo kq all) (T : IsTru kl kc t) (ho : ∀ i, i < kc.length → tr t kc i ≤ op) : Flo (gi t 0) (gi t 1) (gi t 2) (gi t 3) hr gr ((kll t).map m65) (kt.map m73) (kc.map m74) tubs op clo (kq.map m53) where
  T := tr_of (V.H.one T.1) T.2
  t1 := V.t1
  t4 := V.t4
  q5 := by rw [List.length_map]; exact V.q5
  o0 := V.o0
  oc := V.oc
  c1 := V.c1
  qv := by
    intro x hx
    obtain ⟨y, hy, rfl⟩ := List.mem_map.1 hx
    obtain ⟨i, hi, rfl⟩ := List.getElem_of_mem hy
    have h1 := V.qv i hi
    have h3 : g54 kq i = kq[i] := by unfold g54; rw [List.getD_eq_getElem?_getD, List.getElem?_eq_getElem hi]; rfl
    rw [h3] at h1
    exact h1
  fr := fun n => frm_le (V.H.one T.1) ho V.o0 _ _
end

end Go.Proofs.Ytgdbnioodimlfaa.Wk

/- Plain laws, with no program in sight: a house with one more ticket, clipped twice. Conditions stand in each theorem. -/
namespace Go.Proofs.Ytgdbnioodimlfaa.Wk
open Go.RowKit Go.Proofs.YtgdbnioodimlfaaW.PrintWords Go.Proofs.YtgdbnioodimlfaaW.PrintLast Go.Proofs.YtgdbnioodimlfaaW.PrintMore Go.Proofs.Ytgdbnioodimlfaa.PTopWashed Go.Proofs.Ytgdbnioodimlfaa.Sq
attribute [local go_sem] max2_int min2_int max_two min_two max_three min_three max_four min_four
set_option linter.unusedVariables false
set_option linter.unusedSimpArgs false

section
variable {hr gr : Int} {kt : List S58} {kc : List S60} {op lg k : Int} {t : List Int} {n0 : Int}
/-- The tickets with one more. -/
def ytk (kt : List S58) (n0 : Int) : List S58 := kt ++ [⟨n0, 9⟩]
/-- The clips with two more. -/
def ycp (kt : List S58) (kc : List S60) (k b e : Int) : List S60 := kc ++ [⟨(kt.length : Int), k, b⟩, ⟨(kt.length : Int), k, e⟩]
theorem g60_lt (kc l : List S60) (i : Nat) (h : i < kc.length) : g60 (kc ++ l) i = g60 kc i := by
  unfold g60
  rw [List.getD_eq_getElem?_getD, List.getD_eq_getElem?_getD, List.getElem?_append_left h]
theorem g60_ge (kc l : List S60) (i : Nat) : g60 (kc ++ l) (kc.length + i) = g60 l i := by
  unfold g60
  rw [List.getD_eq_getElem?_getD, List.getD_eq_getElem?_getD, List.getElem?_append_right (by omega), Nat.add_sub_cancel_left]
theorem g58_lt (kt l : List S58) (i : Nat) (h : i < kt.length) : g58 (kt ++ l) i = g58 kt i := by
  unfold g58
  rw [List.getD_eq_getElem?_getD, List.getD_eq_getElem?_getD, List.getElem?_append_left h]
theorem g58_ge (kt l : List S58) : g58 (kt ++ l) kt.length = g58 l 0 := by
  unfold g58
  rw [List.getD_eq_getElem?_getD, List.getD_eq_getElem?_getD, List.getElem?_append_right (by omega), Nat.sub_self]
theorem ofL_y_lt (kt : List S58) (kc : List S60) (k b e : Int) (i : Nat) (h : i < kt.length) : ofL ((ycp kt kc k b e).map m74) (i : Int) = ofL (kc.map m74) (i : Int) := by
  have h1 : ((kt.length : Int) == (i : Int)) = false := by simp; omega
  rw [ofL_m, ofL_m, ycp, List.filter_append]
  simp [h1]
theorem ofL_y_eq (kt : List S58) (kc : List S60) (k b e : Int) (n2 : Nat) (C : Vcp kt.length n2 kc) : ofL ((ycp kt kc k b e).map m74) (kt.length : Int) = [⟨(kt.length : Int), k, b⟩, ⟨(kt.length : Int), k, e⟩] := by
  have h0 : (kc.filter fun c => c.f0 == (kt.length : Int)) = [] := by
    rw [List.filter_eq_nil_iff]
    intro x hx
    have := C.2 x hx
    simp
    omega
  rw [ofL_m, ycp, List.filter_append, h0]
  simp [m74]
theorem y_tr (b e : Int) (hb : b = op + gi t k.toNat) (he : e = op + lg + gi t k.toNat) (hl : 0 ≤ lg) (R : ∀ p q, q < p → p < kc.length → tr t kc q ≤ tr t kc p) (ho : ∀ i, i < kc.length → tr t kc i ≤ op) :
    ∀ p q, q < p → p < (ycp kt kc k b e).length → tr t (ycp kt kc k b e) q ≤ tr t (ycp kt kc k b e) p := by
  intro p q hqp hp
  have hlen : (ycp kt kc k b e).length = kc.length + 2 := by simp [ycp]
  have l1 : ∀ i, i < kc.length → tr t (ycp kt kc k b e) i = tr t kc i := by
    intro i hi
    unfold tr ycp
    rw [g60_lt _ _ _ hi]
  have l2 : tr t (ycp kt kc k b e) kc.length = op := by
    have h := g60_ge kc [⟨(kt.length : Int), k, b⟩, ⟨(kt.length : Int), k, e⟩] 0
    rw [Nat.add_zero] at h
    unfold tr ycp
    rw [h, show g60 [⟨(kt.length : Int), k, b⟩, ⟨(kt.length : Int), k, e⟩] 0 = ⟨(kt.length : Int), k, b⟩ from rfl]
    dsimp
    omega
  have l3 : tr t (ycp kt kc k b e) (kc.length + 1) = op + lg := by
    unfold tr ycp
    rw [g60_ge, show g60 [⟨(kt.length : Int), k, b⟩, ⟨(kt.length : Int), k, e⟩] 1 = ⟨(kt.length : Int), k, e⟩ from rfl]
    dsimp
    omega
  rw [hlen] at hp
  rcases Nat.lt_trichotomy p kc.length with h | h | h
  · rw [l1 p h, l1 q (by omega)]
    exact R p q hqp h
  · subst h
    rw [l2, l1 q hqp]
    exact ho q hqp
  · have hp2 : p = kc.length + 1 := by omega
    subst hp2
    rw [l3]
    rcases Nat.lt_or_ge q kc.length with h2 | h2
    · rw [l1 q h2]
      have := ho q h2
      omega
    · have hq2 : q = kc.length := by omega
      subst hq2
      rw [l2]
      omega
/-- What is asked of the house with one more ticket. -/
structure Yin (e0 e1 e2 e3 hr gr : Int) (cl : List S65) (ti : List S73) (cp : List S74) (n : Nat) (n0 op lg : Int) : Prop where
  T : Tr e0 e1 e2 e3 hr gr cl ti cp
  ln : ti.length = n + 1
  o : opn ti cp n0 = false
  f : frmK e0 e1 e2 e3 ti cp n0 (n + 1) = op + lg
  h : hrs hr gr e0 e1 e2 e3 (ofL cp (n : Int)) = Int.tdiv (mx 0 (lg - gr) + hr - 1) hr
  a : ∀ j, j < n → Apart e0 e1 e2 e3 ti cp j n
theorem y_in (b e : Int) (V : Vho hr gr (kll t) kt kc) (hb : b = op + gi t k.toNat) (he : e = op + lg + gi t k.toNat) (Y : Vho hr gr (kll t) (ytk kt n0) (ycp kt kc k b e)) (h0 : 0 ≤ op) (hl : 0 ≤ lg) (R : ∀ p q, q < p → p < kc.length → tr t kc q ≤ tr t kc p) (ho : ∀ i, i < kc.length → tr t kc i ≤ op)
    (hop : opn (kt.map m73) (kc.map m74) n0 = false) : Yin (gi t 0) (gi t 1) (gi t 2) (gi t 3) hr gr ((kll t).map m65) ((ytk kt n0).map m73) ((ycp kt kc k b e).map m74) kt.length n0 op lg := by
  have hk : 0 ≤ k ∧ k.toNat < 4 := by
    have h1 := Y.C.2 ⟨(kt.length : Int), k, b⟩ (by simp [ycp])
    have h2 := Y.V.1
    dsimp at h1
    omega
  have hn : (ytk kt n0).length = kt.length + 1 := by simp [ytk]
  have hof := ofL_y_eq kt kc k b e _ V.C
  have hlt : ∀ j, j < kt.length → g73 ((ytk kt n0).map m73) j = g73 (kt.map m73) j := by
    intro j hj
    rw [g73_m, g73_m, ytk, g58_lt _ _ _ hj]
  have heq : g73 ((ytk kt n0).map m73) kt.length = ⟨n0, 9⟩ := by
    rw [g73_m, ytk, g58_ge]
    rfl
  have t0 : tm (gi t 0) (gi t 1) (gi t 2) (gi t 3) ⟨(kt.length : Int), k, b⟩ = op := by
    unfold tm
    dsimp
    rw [sel_gi t k hk.2]
    omega
  have t1 : tm (gi t 0) (gi t 1) (gi t 2) (gi t 3) ⟨(kt.length : Int), k, e⟩ = op + lg := by
    unfold tm
    dsimp
    rw [sel_gi t k hk.2]
    omega
  have hopj : ∀ j, j < kt.length → opnF (kt.map m73) (kc.map m74) n0 j = false := by
    intro j hj
    cases hx : opnF (kt.map m73) (kc.map m74) n0 j with
    | false => rfl
    | true =>
      exfalso
      have : opn (kt.map m73) (kc.map m74) n0 = true := by
        unfold opn
        rw [List.any_eq_true]
        exact ⟨j, by rw [List.mem_range'_1, List.length_map]; omega, hx⟩
      rw [hop] at this
      cases this
  refine ⟨tr_of Y (y_tr b e hb he hl R ho), by rw [List.length_map]; exact hn, ?_, ?_, ?_, ?_⟩
  · unfold opn
    rw [List.any_eq_false]
    intro j hj
    rw [List.mem_range'_1, List.length_map, hn] at hj
    rcases Nat.lt_or_ge j kt.length with h | h
    · have h1 := hopj j h
      unfold opnF at h1 ⊢
      rw [hlt j h, ofL_y_lt _ _ _ _ _ _ h, h1]
      exact Bool.false_ne_true
    · have hj2 : j = kt.length := by omega
      subst hj2
      unfold opnF
      rw [hof]
      simp
  · have hfr : ∀ j, j ≤ kt.length → frmK (gi t 0) (gi t 1) (gi t 2) (gi t 3) ((ytk kt n0).map m73) ((ycp kt kc k b e).map m74) n0 j = frmK (gi t 0) (gi t 1) (gi t 2) (gi t 3) (kt.map m73) (kc.map m74) n0 j := by
      intro j
      induction j with
      | zero => intro _; rfl
      | succ j ih =>
        intro hj
        unfold frmK
        rw [hlt j (by omega), ofL_y_lt _ _ _ _ _ _ (by omega), ih (by omega)]
    unfold frmK
    rw [heq, hof, if_pos ⟨rfl, rfl⟩, hfr _ (Nat.le_refl _)]
    have h1 := frm_le V ho h0 n0 kt.length
    rw [show g74 [(⟨(kt.length : Int), k, b⟩ : S74), ⟨(kt.length : Int), k, e⟩] 1 = ⟨(kt.length : Int), k, e⟩ from rfl, t1]
    unfold mx
    split <;> omega
  · rw [hof]
    unfold hrs
    rw [if_neg (by simp), show g74 [(⟨(kt.length : Int), k, b⟩ : S74), ⟨(kt.length : Int), k, e⟩] 1 = ⟨(kt.length : Int), k, e⟩ from rfl, show g74 [(⟨(kt.length : Int), k, b⟩ : S74), ⟨(kt.length : Int), k, e⟩] 0 = ⟨(kt.length : Int), k, b⟩ from rfl, t0, t1, show op + lg - op - gr = lg - gr by omega]
  · intro j hj
    unfold Apart
    rw [hlt j hj, heq, ofL_y_lt _ _ _ _ _ _ hj, hof]
    by_cases h1 : (g73 (kt.map m73) j).f0 = n0
    · right
      have h2 := hopj j hj
      have h3 := V.of j hj
      rw [← ofL_len] at h3
      unfold opnF at h2
      rw [decide_eq_true h1, Bool.true_and, decide_eq_false_iff_not] at h2
      rcases Nat.eq_zero_or_pos (ofL (kc.map m74) (j : Int)).length with h4 | h4
      · exact .inl h4
      · refine .inr ⟨by omega, rfl, ?_⟩
        have h5 := of_tm V ho (j : Int) 1 (by omega)
        rw [show g74 [(⟨(kt.length : Int), k, b⟩ : S74), ⟨(kt.length : Int), k, e⟩] 0 = ⟨(kt.length : Int), k, b⟩ from rfl, t0]
        exact h5
    · exact .inl h1
end

end Go.Proofs.Ytgdbnioodimlfaa.Wk
