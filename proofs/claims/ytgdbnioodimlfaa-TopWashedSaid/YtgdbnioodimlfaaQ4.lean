/- Plain laws, with no program in sight: what Many, Nth, True and Rising of posserref01 give on a valid house. Conditions stand in each theorem. -/
import Derived.Test.YtgdbnioodimlfaaSeq
import Derived.Test.YtgdbnioodimlfaaB2
import Derived.Test.YtgdbnioodimlfaaPTopWashedx3
import Derived.Test.YtgdbnioodimlfaaPTopWashedx6
namespace Go.Proofs.Ytgdbnioodimlfaa.Wk
open Go.RowKit Go.Proofs.YtgdbnioodimlfaaW.PrintWords Go.Proofs.YtgdbnioodimlfaaW.PrintLast Go.Proofs.YtgdbnioodimlfaaW.PrintMore Go.Proofs.Ytgdbnioodimlfaa.PTopWashed Go.Proofs.Ytgdbnioodimlfaa.Sq
attribute [local go_sem] max2_int min2_int max_two min_two max_three min_three max_four min_four
set_option linter.unusedVariables false
set_option linter.unusedSimpArgs false

/-- The clocks of a valid house. -/
def Vcl (kl : List S54) : Prop := kl.length ≤ 4 ∧ ∀ x ∈ kl, -30 ≤ x.f0 ∧ x.f0 ≤ x.f1 ∧ x.f1 ≤ 30
/-- The clips of a valid house. -/
def Vcp (n3 n2 : Nat) (kc : List S60) : Prop := kc.length ≤ 10 ∧ ∀ x ∈ kc, 0 ≤ x.f0 ∧ x.f0 < n3 ∧ 0 ≤ x.f1 ∧ x.f1 < n2 ∧ 0 ≤ x.f2 ∧ x.f2 ≤ 1439
theorem Vcl.at {kl : List S54} (h : Vcl kl) (j : Nat) (hj : j < kl.length) : -30 ≤ (g54 kl j).f0 ∧ (g54 kl j).f0 ≤ (g54 kl j).f1 ∧ (g54 kl j).f1 ≤ 30 := h.2 _ (g54_mem kl j hj)
theorem Vcp.at {n3 n2 : Nat} {kc : List S60} (h : Vcp n3 n2 kc) (j : Nat) (hj : j < kc.length) : 0 ≤ (g60 kc j).f0 ∧ (g60 kc j).f0 < n3 ∧ 0 ≤ (g60 kc j).f1 ∧ (g60 kc j).f1 < n2 ∧ 0 ≤ (g60 kc j).f2 ∧ (g60 kc j).f2 ≤ 1439 := h.2 _ (g60_mem kc j hj)
theorem size_f (lo hi : Int) (h1 : -100 ≤ lo) (h2 : lo ≤ hi) (h3 : hi ≤ 100) : posserref01_Size.f lo hi = some (hi - lo + 1) := by
  unfold posserref01_Size.f
  rw [w64 (x := hi - lo) (by omega) (by omega), w64 (by omega) (by omega)]
theorem succ64 (j : Nat) (h : j ≤ 100000) : wrap64 ((j : Int) + 1) = ((j + 1 : Nat) : Int) := by rw [w64 (by omega) (by omega)]; omega

theorem many_l0 (hr gr : Int) (kl : List S54) (kt : List S58) (kc : List S60) (V : Vcl kl) : ∀ (d j k : Nat) (m : Int), j + d = kl.length → d < k → 1 ≤ m → m ≤ 3000 →
    ∃ r, posserref01_Many.l0 k m (j : Int) hr gr kl kt kc = some r ∧ 1 ≤ r ∧ r ≤ 3000 := by
  intro d
  induction d with
  | zero =>
    intro j k m hj hk h1 h2
    obtain ⟨k, rfl⟩ : ∃ q, k = q + 1 := ⟨k - 1, by omega⟩
    simp only [posserref01_Many.l0]
    rw [if_neg (by omega)]
    exact ⟨m, rfl, h1, h2⟩
  | succ d ih =>
    intro j k m hj hk h1 h2
    obtain ⟨k, rfl⟩ : ∃ q, k = q + 1 := ⟨k - 1, by omega⟩
    have hv := V.at j (by omega)
    have hl := V.1
    simp only [posserref01_Many.l0]
    rw [if_pos (by omega), if_pos (by omega), show rd_T54 kl (j : Int) = g54 kl j from rfl, size_f _ _ (by omega) hv.2.1 (by omega), Option.bind_some, succ64 j (by omega)]
    have hs : 1 ≤ (g54 kl j).f1 - (g54 kl j).f0 + 1 ∧ (g54 kl j).f1 - (g54 kl j).f0 + 1 ≤ 61 := by omega
    have hp1 : 1 * 1 ≤ m * ((g54 kl j).f1 - (g54 kl j).f0 + 1) := Int.mul_le_mul h1 hs.1 (by omega) (by omega)
    have hp2 : m * ((g54 kl j).f1 - (g54 kl j).f0 + 1) ≤ 3000 * 61 := Int.mul_le_mul h2 hs.2 (by omega) (by omega)
    rw [w64 (by omega) (by omega)]
    exact ih (j + 1) k _ (by omega) (by omega) (by unfold mn; split <;> omega) (by unfold mn; split <;> omega)
theorem many_f (hr gr : Int) (kl : List S54) (kt : List S58) (kc : List S60) (V : Vcl kl) (k : Nat) (hk : 4 < k) : ∃ r, posserref01_Many.f k hr gr kl kt kc = some r ∧ 1 ≤ r ∧ r ≤ 3000 :=
  many_l0 hr gr kl kt kc V kl.length 0 k 1 (by omega) (by have := V.1; omega) (by omega) (by omega)

theorem tdiv_in {x s : Int} (h0 : 0 ≤ x) (h1 : x ≤ 3000) (hs : 1 ≤ s) : 0 ≤ Int.tdiv x s ∧ Int.tdiv x s ≤ 3000 := by
  rw [Int.tdiv_eq_ediv_of_nonneg h0]
  have h2 : 0 ≤ x / s := Int.ediv_nonneg h0 (by omega)
  have h3 : x / s ≤ x := Int.ediv_le_self s h0
  exact ⟨h2, by omega⟩
theorem tmod_in {x s : Int} (h0 : 0 ≤ x) (hs : 1 ≤ s) : 0 ≤ Int.tmod x s ∧ Int.tmod x s < s := by
  rw [Int.tmod_eq_emod_of_nonneg h0]
  exact ⟨Int.emod_nonneg _ (by omega), Int.emod_lt_of_pos _ (by omega)⟩
theorem gi_app_lt (l : List Int) (x : Int) (i : Nat) (h : i < l.length) : gi (l ++ [x]) i = gi l i := by
  unfold gi
  rw [List.getD_eq_getElem?_getD, List.getD_eq_getElem?_getD, List.getElem?_append_left h]
theorem gi_app_eq (l : List Int) (x : Int) : gi (l ++ [x]) l.length = x := by
  unfold gi
  rw [List.getD_eq_getElem?_getD, List.getElem?_append_right (Nat.le_refl _)]
  simp

/-- Errors of the clocks of a house. -/
def IsErr (kl : List S54) (t : List Int) : Prop := t.length = kl.length ∧ ∀ i, i < kl.length → (g54 kl i).f0 ≤ gi t i ∧ gi t i ≤ (g54 kl i).f1
theorem nth_l0 (hr gr : Int) (kl : List S54) (kt : List S58) (kc : List S60) (V : Vcl kl) : ∀ (d j k : Nat) (x : Int) (acc : List Int), j + d = kl.length → d < k → 0 ≤ x → x ≤ 3000 → acc.length = j →
    (∀ i, i < j → (g54 kl i).f0 ≤ gi acc i ∧ gi acc i ≤ (g54 kl i).f1) → ∃ r, posserref01_Nth.l0 k x acc (j : Int) hr gr kl kt kc = some r ∧ IsErr kl r := by
  intro d
  induction d with
  | zero =>
    intro j k x acc hj hk h1 h2 ha hi
    obtain ⟨k, rfl⟩ : ∃ q, k = q + 1 := ⟨k - 1, by omega⟩
    simp only [posserref01_Nth.l0]
    rw [if_neg (by omega)]
    exact ⟨acc, rfl, by omega, fun i h => hi i (by omega)⟩
  | succ d ih =>
    intro j k x acc hj hk h1 h2 ha hi
    obtain ⟨k, rfl⟩ : ∃ q, k = q + 1 := ⟨k - 1, by omega⟩
    have hv := V.at j (by omega)
    have hl := V.1
    have hs : 1 ≤ (g54 kl j).f1 - (g54 kl j).f0 + 1 ∧ (g54 kl j).f1 - (g54 kl j).f0 + 1 ≤ 61 := by omega
    have hd := tdiv_in h1 h2 hs.1
    have hm := tmod_in h1 hs.1
    simp only [posserref01_Nth.l0]
    rw [if_pos (by omega), if_pos (by omega), show rd_T54 kl (j : Int) = g54 kl j from rfl, size_f _ _ (by omega) hv.2.1 (by omega), Option.bind_some, if_neg (by omega), if_pos (by omega), Option.bind_some, if_neg (by omega), succ64 j (by omega)]
    rw [w64 (x := Int.tdiv _ _) (by omega) (by omega), w64 (by omega) (by omega)]
    refine ih (j + 1) k _ _ (by omega) (by omega) hd.1 hd.2 (by simp; omega) (fun i hij => ?_)
    by_cases e : i = j
    · subst e
      subst ha
      rw [gi_app_eq]
      omega
    · rw [gi_app_lt _ _ _ (by omega)]
      exact hi i (by omega)
theorem nth_f (hr gr : Int) (kl : List S54) (kt : List S58) (kc : List S60) (V : Vcl kl) (k : Nat) (hk : 4 < k) (x : Int) (h1 : 0 ≤ x) (h2 : x ≤ 3000) : ∃ r, posserref01_Nth.f k hr gr kl kt kc x = some r ∧ IsErr kl r :=
  nth_l0 hr gr kl kt kc V kl.length 0 k x [] (by omega) (by have := V.1; omega) h1 h2 rfl (fun i h => by omega)

/-- The true minute of a clip. -/
def tr (t : List Int) (kc : List S60) (i : Nat) : Int := (g60 kc i).f2 - gi t (g60 kc i).f1.toNat
theorem true_f (hr gr : Int) (kl : List S54) (kt : List S58) (kc : List S60) (n3 : Nat) (V : Vcl kl) (C : Vcp n3 kl.length kc) (t : List Int) (E : IsErr kl t) (i : Nat) (hi : i < kc.length) : posserref01_True.f hr gr kl kt kc t (i : Int) = some (tr t kc i) := by
  have hc := C.at i hi
  have hl := V.1
  have he := E.2 (g60 kc i).f1.toNat (by omega)
  have hv := V.at (g60 kc i).f1.toNat (by omega)
  unfold posserref01_True.f
  rw [show rd_T60 kc (i : Int) = g60 kc i from rfl, if_pos (by omega), if_pos (by omega), if_pos (by omega), if_pos (by have := E.1; omega)]
  rw [show rd t (g60 kc i).f1 = gi t (g60 kc i).f1.toNat from rfl, w64 (by omega) (by omega)]
  rfl

end Go.Proofs.Ytgdbnioodimlfaa.Wk

/- Plain laws, with no program in sight: what Rising and Truths of posserref01 give on a valid house. Conditions stand in each theorem. -/
namespace Go.Proofs.Ytgdbnioodimlfaa.Wk
open Go.RowKit Go.Proofs.YtgdbnioodimlfaaW.PrintWords Go.Proofs.YtgdbnioodimlfaaW.PrintLast Go.Proofs.YtgdbnioodimlfaaW.PrintMore Go.Proofs.Ytgdbnioodimlfaa.PTopWashed Go.Proofs.Ytgdbnioodimlfaa.Sq
attribute [local go_sem] max2_int min2_int max_two min_two max_three min_three max_four min_four
set_option linter.unusedVariables false
set_option linter.unusedSimpArgs false

def fullI (n : Nat) : Int := wrap64 ((shl .i64 1 (IntKind.u64.wrap (n : Int))) - 1)
theorem bits11 : ∀ n : Fin 11, ∀ i : Fin 11, i.val < n.val → 0 ≤ IntKind.u64.wrap (i.val : Int) ∧ Int.tmod (shr .i64 (fullI n.val) (IntKind.u64.wrap (i.val : Int))) 2 = 1 := of_decide_eq_true (by kernel_rfl)
theorem wrap11 : ∀ n : Fin 11, 0 ≤ IntKind.u64.wrap (n.val : Int) := by decide
theorem bits (n i : Nat) (hn : n ≤ 10) (hi : i < n) : 0 ≤ IntKind.u64.wrap (i : Int) ∧ Int.tmod (shr .i64 (fullI n) (IntKind.u64.wrap (i : Int))) 2 = 1 := bits11 ⟨n, by omega⟩ ⟨i, by omega⟩ hi
theorem full_f (hr gr : Int) (kl : List S54) (kt : List S58) (kc : List S60) (hn : kc.length ≤ 10) : posserref01_Full.f hr gr kl kt kc = some (fullI kc.length) := by
  unfold posserref01_Full.f
  rw [if_pos (wrap11 ⟨kc.length, by omega⟩)]
  rfl

theorem rising_l1 (hr gr : Int) (kl : List S54) (kt : List S58) (kc : List S60) (n3 : Nat) (V : Vcl kl) (C : Vcp n3 kl.length kc) (t : List Int) (E : IsErr kl t) (i : Nat) (hi : i < kc.length) (need : Nat) (Pn : Prop) (hnext : ∀ k, need < k → ∃ b, posserref01_Rising.l0 k t (fullI kc.length) ((i + 1 : Nat) : Int) hr gr kl kt kc = some b ∧ (b = true → Pn)) :
    ∀ (d j k : Nat), j + d = i → need + d + 1 < k → ∃ b, posserref01_Rising.l1 k t (fullI kc.length) (i : Int) (j : Int) hr gr kl kt kc = some b ∧ (b = true → Pn ∧ ∀ q, j ≤ q → q < i → tr t kc q ≤ tr t kc i) := by
  intro d
  induction d with
  | zero =>
    intro j k hj hk
    obtain ⟨k, rfl⟩ : ∃ q, k = q + 1 := ⟨k - 1, by omega⟩
    have hC := C.1
    simp only [posserref01_Rising.l1]
    rw [if_neg (by omega), succ64 i (by omega)]
    obtain ⟨b, h1, h2⟩ := hnext k (by omega)
    exact ⟨b, h1, fun hb => ⟨h2 hb, fun q h3 h4 => by omega⟩⟩
  | succ d ih =>
    intro j k hj hk
    obtain ⟨k, rfl⟩ : ∃ q, k = q + 1 := ⟨k - 1, by omega⟩
    have hC := C.1
    have b1 := bits kc.length i (by omega) hi
    have b2 := bits kc.length j (by omega) (by omega)
    simp only [posserref01_Rising.l1]
    rw [if_pos (by omega), if_pos b1.1, if_pos b1.2, if_pos b2.1, if_pos b2.2, true_f hr gr kl kt kc n3 V C t E i hi, true_f hr gr kl kt kc n3 V C t E j (by omega), Option.bind_some, Option.bind_some, succ64 j (by omega)]
    by_cases hlt : tr t kc i < tr t kc j
    · rw [if_pos hlt]
      exact ⟨false, rfl, fun h => by cases h⟩
    · rw [if_neg hlt]
      obtain ⟨b, h1, h2⟩ := ih (j + 1) k (by omega) (by omega)
      refine ⟨b, h1, fun hb => ⟨(h2 hb).1, fun q h3 h4 => ?_⟩⟩
      by_cases e : q = j
      · subst e; omega
      · exact (h2 hb).2 q (by omega) h4
theorem rising_l0 (hr gr : Int) (kl : List S54) (kt : List S58) (kc : List S60) (n3 : Nat) (V : Vcl kl) (C : Vcp n3 kl.length kc) (t : List Int) (E : IsErr kl t) : ∀ (d i k : Nat), i + d = kc.length → d * 20 < k → ∃ b, posserref01_Rising.l0 k t (fullI kc.length) (i : Int) hr gr kl kt kc = some b ∧ (b = true → ∀ p q, i ≤ p → q < p → p < kc.length → tr t kc q ≤ tr t kc p) := by
  intro d
  induction d with
  | zero =>
    intro i k hi hk
    obtain ⟨k, rfl⟩ : ∃ q, k = q + 1 := ⟨k - 1, by omega⟩
    simp only [posserref01_Rising.l0]
    rw [if_neg (by omega)]
    exact ⟨true, rfl, fun _ p q h1 h2 h3 => by omega⟩
  | succ d ih =>
    intro i k hi hk
    obtain ⟨k, rfl⟩ : ∃ q, k = q + 1 := ⟨k - 1, by omega⟩
    have hC := C.1
    simp only [posserref01_Rising.l0]
    rw [if_pos (by omega)]
    obtain ⟨b, h1, h2⟩ := rising_l1 hr gr kl kt kc n3 V C t E i (by omega) (d * 20) (∀ p q, i + 1 ≤ p → q < p → p < kc.length → tr t kc q ≤ tr t kc p) (fun k hk => ih (i + 1) k (by omega) hk) i 0 k (by omega) (by omega)
    refine ⟨b, h1, fun hb p q h3 h4 h5 => ?_⟩
    by_cases e : p = i
    · subst e; exact (h2 hb).2 q (by omega) h4
    · exact (h2 hb).1 p q (by omega) h4 h5
theorem rising_f (hr gr : Int) (kl : List S54) (kt : List S58) (kc : List S60) (n3 : Nat) (V : Vcl kl) (C : Vcp n3 kl.length kc) (t : List Int) (E : IsErr kl t) (k : Nat) (hk : 200 < k) : ∃ b, posserref01_Rising.f k hr gr kl kt kc t (fullI kc.length) = some b ∧ (b = true → ∀ p q, q < p → p < kc.length → tr t kc q ≤ tr t kc p) := by
  obtain ⟨b, h1, h2⟩ := rising_l0 hr gr kl kt kc n3 V C t E kc.length 0 k (by omega) (by have := C.1; omega)
  exact ⟨b, h1, fun hb p q h3 h4 => h2 hb p q (by omega) h3 h4⟩

/-- A truth of a house. -/
def IsTru (kl : List S54) (kc : List S60) (t : List Int) : Prop := IsErr kl t ∧ ∀ p q, q < p → p < kc.length → tr t kc q ≤ tr t kc p
theorem truths_l0 (hr gr : Int) (kl : List S54) (kt : List S58) (kc : List S60) (n3 : Nat) (V : Vcl kl) (C : Vcp n3 kl.length kc) (m : Int) (hm1 : 1 ≤ m) (hm2 : m ≤ 3000) (hm : ∀ k, 4 < k → posserref01_Many.f k hr gr kl kt kc = some m) :
    ∀ (d x k : Nat) (acc : List (List Int)), (x : Int) + d = m → d + 300 < k → acc.length ≤ x → (∀ t ∈ acc, IsTru kl kc t) → ∃ r, posserref01_Truths.l0 k acc (x : Int) hr gr kl kt kc = some r ∧ r.length ≤ 3000 ∧ ∀ t ∈ r, IsTru kl kc t := by
  intro d
  induction d with
  | zero =>
    intro x k acc hx hk ha hi
    obtain ⟨k, rfl⟩ : ∃ q, k = q + 1 := ⟨k - 1, by omega⟩
    simp only [posserref01_Truths.l0]
    rw [hm k (by omega), Option.bind_some, if_neg (by omega)]
    exact ⟨acc, rfl, by omega, hi⟩
  | succ d ih =>
    intro x k acc hx hk ha hi
    obtain ⟨k, rfl⟩ : ∃ q, k = q + 1 := ⟨k - 1, by omega⟩
    simp only [posserref01_Truths.l0]
    obtain ⟨t, ht, hE⟩ := nth_f hr gr kl kt kc V k (by omega) (x : Int) (by omega) (by omega)
    obtain ⟨b, hb, hR⟩ := rising_f hr gr kl kt kc n3 V C t hE k (by omega)
    rw [hm k (by omega), Option.bind_some, if_pos (by omega), ht, Option.bind_some, full_f hr gr kl kt kc C.1, Option.bind_some, hb, Option.bind_some, succ64 x (by omega)]
    cases b with
    | true =>
      rw [if_pos rfl, if_pos (by omega)]
      refine ih (x + 1) k _ (by omega) (by omega) (by simp; omega) (fun u hu => ?_)
      rcases List.mem_append.1 hu with hu | hu
      · exact hi u hu
      · have e : u = t := by simpa using hu
        subst e
        exact ⟨hE, hR rfl⟩
    | false =>
      rw [if_neg (by simp)]
      exact ih (x + 1) k acc (by omega) (by omega) (by omega) hi
theorem many_const (hr gr : Int) (kl : List S54) (kt : List S58) (kc : List S60) (V : Vcl kl) : ∃ m, 1 ≤ m ∧ m ≤ 3000 ∧ ∀ k, 4 < k → posserref01_Many.f k hr gr kl kt kc = some m := by
  obtain ⟨m, h, h1, h2⟩ := many_f hr gr kl kt kc V 5 (by omega)
  refine ⟨m, h1, h2, fun k hk => ?_⟩
  obtain ⟨e, rfl⟩ : ∃ e, k = 5 + e := ⟨k - 5, by omega⟩
  clear hk
  induction e with
  | zero => exact h
  | succ e ih => exact posserref01_Many.mono hr gr kl kt kc (5 + e) m ih
theorem truths_f (hr gr : Int) (kl : List S54) (kt : List S58) (kc : List S60) (n3 : Nat) (V : Vcl kl) (C : Vcp n3 kl.length kc) (k : Nat) (hk : 4000 < k) : ∃ r, posserref01_Truths.f k hr gr kl kt kc = some r ∧ r.length ≤ 3000 ∧ ∀ t ∈ r, IsTru kl kc t := by
  obtain ⟨m, h1, h2, h3⟩ := many_const hr gr kl kt kc V
  exact truths_l0 hr gr kl kt kc n3 V C m h1 h2 h3 m.toNat 0 k [] (by omega) (by omega) (by simp) (by simp)

end Go.Proofs.Ytgdbnioodimlfaa.Wk

/- Plain laws, with no program in sight: what Fault and Thin give. Conditions stand in each theorem. -/
namespace Go.Proofs.Ytgdbnioodimlfaa.Wk
open Go.RowKit Go.Proofs.YtgdbnioodimlfaaW.PrintWords Go.Proofs.YtgdbnioodimlfaaW.PrintLast Go.Proofs.YtgdbnioodimlfaaW.PrintMore Go.Proofs.Ytgdbnioodimlfaa.PTopWashed Go.Proofs.Ytgdbnioodimlfaa.Sq
attribute [local go_sem] max2_int min2_int max_two min_two max_three min_three max_four min_four
set_option linter.unusedVariables false
set_option linter.unusedSimpArgs false

def of60 (kc : List S60) (i : Int) : Nat := (kc.filter fun c => c.f0 == i).length
theorem of60_l0 (hr gr : Int) (kl : List S54) (kt : List S58) (kc : List S60) (i : Int) (h : kc.length ≤ 1000) : ∀ (d j k : Nat) (acc : List Int), j + d = kc.length → d < k → acc.length ≤ j →
    ∃ r, posserref01_Of.l0 k i acc (j : Int) hr gr kl kt kc = some r ∧ r.length = acc.length + of60 (kc.drop j) i := by
  intro d
  induction d with
  | zero =>
    intro j k acc hj hk ha
    obtain ⟨k, rfl⟩ : ∃ m, k = m + 1 := ⟨k - 1, by omega⟩
    simp only [posserref01_Of.l0]
    rw [if_neg (by omega), List.drop_of_length_le (by omega)]
    exact ⟨acc, rfl, rfl⟩
  | succ d ih =>
    intro j k acc hj hk ha
    obtain ⟨k, rfl⟩ : ∃ m, k = m + 1 := ⟨k - 1, by omega⟩
    have hjl : j < kc.length := by omega
    have hd : kc.drop j = kc[j] :: kc.drop (j + 1) := List.drop_eq_getElem_cons hjl
    have hr : rd_T60 kc (j : Int) = kc[j] := by simp [rd_T60, hjl]
    simp only [posserref01_Of.l0]
    rw [if_pos (by omega), if_pos (by omega), hr, succ64 j (by omega)]
    by_cases e : kc[j].f0 = i
    · obtain ⟨r, h1, h2⟩ := ih (j + 1) k (acc ++ [(j : Int)]) (by omega) (by omega) (by simp; omega)
      rw [if_pos e, if_pos (by omega)]
      refine ⟨r, h1, ?_⟩
      have e1 : of60 (kc.drop j) i = of60 (kc.drop (j + 1)) i + 1 := by
        unfold of60
        rw [hd, List.filter_cons_of_pos (by simpa using e)]
        rfl
      rw [h2, e1]
      simp
      omega
    · obtain ⟨r, h1, h2⟩ := ih (j + 1) k acc (by omega) (by omega) (by omega)
      rw [if_neg e]
      refine ⟨r, h1, ?_⟩
      have e1 : of60 (kc.drop j) i = of60 (kc.drop (j + 1)) i := by
        unfold of60
        rw [hd, List.filter_cons_of_neg (by simpa using e)]
      rw [h2, e1]
theorem of60_f (hr gr : Int) (kl : List S54) (kt : List S58) (kc : List S60) (i : Int) (h : kc.length ≤ 1000) (k : Nat) (hk : kc.length < k) : ∃ r, posserref01_Of.f k hr gr kl kt kc i = some r ∧ r.length = of60 kc i := by
  obtain ⟨r, h1, h2⟩ := of60_l0 hr gr kl kt kc i h kc.length 0 k [] (by omega) hk (by simp)
  exact ⟨r, h1, by simpa using h2⟩
theorem in_f (a b c : Int) : posserref01_In.f a b c = some (decide (b ≤ a ∧ a ≤ c)) := by
  unfold posserref01_In.f
  by_cases h : a ≥ b
  · rw [if_pos h]
    congr 1
    simp
    omega
  · rw [if_neg h]
    congr 1
    simp
    omega
/-- A valid house of the reference. -/
structure Vho (hr gr : Int) (kl : List S54) (kt : List S58) (kc : List S60) : Prop where
  V : Vcl kl
  n3 : kt.length ≤ 6
  C : Vcp kt.length kl.length kc
  hr1 : 1 ≤ hr
  hr2 : hr ≤ 120
  gr1 : 0 ≤ gr
  gr2 : gr ≤ 60
  ti : ∀ i, i < kt.length → 0 ≤ (g58 kt i).f0 ∧ (g58 kt i).f0 ≤ 8 ∧ 0 ≤ (g58 kt i).f1 ∧ (g58 kt i).f1 ≤ 9
  of : ∀ i, i < kt.length → of60 kc (i : Int) ≤ 2

section
variable (hr gr : Int) (kl : List S54) (kt : List S58) (kc : List S60)
theorem fault_l2 (V : Vcl kl) (n3 : kt.length ≤ 6) (n4 : kc.length ≤ 10) : ∀ (d j k : Nat), j + d = kt.length → d + 20 < k → ∃ r, posserref01_Fault.l2 k (j : Int) hr gr kl kt kc = some r ∧
    (r = 0 → ∀ i, j ≤ i → i < kt.length → (0 ≤ (g58 kt i).f0 ∧ (g58 kt i).f0 ≤ 8 ∧ 0 ≤ (g58 kt i).f1 ∧ (g58 kt i).f1 ≤ 9) ∧ of60 kc (i : Int) ≤ 2) := by
  intro d
  induction d with
  | zero =>
    intro j k hj hk
    obtain ⟨k, rfl⟩ : ∃ m, k = m + 1 := ⟨k - 1, by omega⟩
    obtain ⟨m, hm, _⟩ := many_f hr gr kl kt kc V k (by omega)
    simp only [posserref01_Fault.l2]
    rw [if_neg (by omega), hm, Option.bind_some]
    by_cases h : m > 2000
    · rw [if_pos h]; exact ⟨3, rfl, fun h => by cases h⟩
    · rw [if_neg h]; exact ⟨0, rfl, fun _ i h1 h2 => by omega⟩
  | succ d ih =>
    intro j k hj hk
    obtain ⟨k, rfl⟩ : ∃ m, k = m + 1 := ⟨k - 1, by omega⟩
    simp only [posserref01_Fault.l2]
    rw [if_pos (by omega), if_pos (by omega), show rd_T58 kt (j : Int) = g58 kt j from rfl, in_f, Option.bind_some]
    by_cases h1 : 0 ≤ (g58 kt j).f0 ∧ (g58 kt j).f0 ≤ 8
    · rw [if_pos (by simpa using h1), in_f, Option.bind_some]
      by_cases h2 : 0 ≤ (g58 kt j).f1 ∧ (g58 kt j).f1 ≤ 9
      · obtain ⟨l, hl, hll⟩ := of60_f hr gr kl kt kc (j : Int) (by omega) k (by omega)
        rw [if_pos (by simpa using h2), hl, Option.bind_some]
        by_cases h3 : (l.length : Int) > 2
        · rw [if_pos h3]; exact ⟨1, rfl, fun h => by cases h⟩
        · rw [if_neg h3, succ64 j (by omega)]
          obtain ⟨r, e1, e2⟩ := ih (j + 1) k (by omega) (by omega)
          refine ⟨r, e1, fun h0 i h4 h5 => ?_⟩
          by_cases e : i = j
          · subst e; exact ⟨⟨h1.1, h1.2, h2.1, h2.2⟩, by omega⟩
          · exact e2 h0 i (by omega) h5
      · rw [if_neg (by simpa using h2)]; exact ⟨1, rfl, fun h => by cases h⟩
    · rw [if_neg (by simpa using h1)]; exact ⟨1, rfl, fun h => by cases h⟩
theorem fault_l1 (V : Vcl kl) (n3 : kt.length ≤ 6) (n4 : kc.length ≤ 10) : ∀ (d j k : Nat), j + d = kc.length → d + 40 < k → ∃ r, posserref01_Fault.l1 k (j : Int) hr gr kl kt kc = some r ∧
    (r = 0 → (∀ i, j ≤ i → i < kc.length → 0 ≤ (g60 kc i).f0 ∧ (g60 kc i).f0 < kt.length ∧ 0 ≤ (g60 kc i).f1 ∧ (g60 kc i).f1 < kl.length ∧ 0 ≤ (g60 kc i).f2 ∧ (g60 kc i).f2 ≤ 1439) ∧
      ∀ i, i < kt.length → (0 ≤ (g58 kt i).f0 ∧ (g58 kt i).f0 ≤ 8 ∧ 0 ≤ (g58 kt i).f1 ∧ (g58 kt i).f1 ≤ 9) ∧ of60 kc (i : Int) ≤ 2) := by
  intro d
  induction d with
  | zero =>
    intro j k hj hk
    obtain ⟨k, rfl⟩ : ∃ m, k = m + 1 := ⟨k - 1, by omega⟩
    simp only [posserref01_Fault.l1]
    rw [if_neg (by omega)]
    obtain ⟨r, e1, e2⟩ := fault_l2 hr gr kl kt kc V n3 n4 kt.length 0 k (by omega) (by omega)
    exact ⟨r, e1, fun h0 => ⟨fun i h1 h2 => by omega, fun i hi => e2 h0 i (by omega) hi⟩⟩
  | succ d ih =>
    intro j k hj hk
    obtain ⟨k, rfl⟩ : ∃ m, k = m + 1 := ⟨k - 1, by omega⟩
    have hl := V.1
    simp only [posserref01_Fault.l1]
    rw [if_pos (by omega), if_pos (by omega), show rd_T60 kc (j : Int) = g60 kc j from rfl, w64 (x := (kt.length : Int) - 1) (by omega) (by omega), w64 (x := (kl.length : Int) - 1) (by omega) (by omega), in_f, Option.bind_some]
    by_cases h1 : 0 ≤ (g60 kc j).f0 ∧ (g60 kc j).f0 ≤ (kt.length : Int) - 1
    · rw [if_pos (by simpa using h1), in_f, Option.bind_some]
      by_cases h2 : 0 ≤ (g60 kc j).f1 ∧ (g60 kc j).f1 ≤ (kl.length : Int) - 1
      · rw [if_pos (by simpa using h2), in_f, Option.bind_some]
        by_cases h3 : 0 ≤ (g60 kc j).f2 ∧ (g60 kc j).f2 ≤ 1439
        · rw [if_pos (by simpa using h3), succ64 j (by omega)]
          obtain ⟨r, e1, e2⟩ := ih (j + 1) k (by omega) (by omega)
          refine ⟨r, e1, fun h0 => ⟨fun i h4 h5 => ?_, (e2 h0).2⟩⟩
          by_cases e : i = j
          · subst e; exact ⟨h1.1, by omega, h2.1, by omega, h3.1, h3.2⟩
          · exact (e2 h0).1 i (by omega) h5
        · rw [if_neg (by simpa using h3)]; exact ⟨1, rfl, fun h => by cases h⟩
      · rw [if_neg (by simpa using h2)]; exact ⟨1, rfl, fun h => by cases h⟩
    · rw [if_neg (by simpa using h1)]; exact ⟨1, rfl, fun h => by cases h⟩
theorem mem54 {kl : List S54} {x : S54} (h : x ∈ kl) : ∃ i, i < kl.length ∧ g54 kl i = x := by
  obtain ⟨i, hi, e⟩ := List.getElem_of_mem h
  exact ⟨i, hi, by unfold g54; rw [List.getD_eq_getElem?_getD, List.getElem?_eq_getElem hi, ← e]; rfl⟩
theorem mem60 {kl : List S60} {x : S60} (h : x ∈ kl) : ∃ i, i < kl.length ∧ g60 kl i = x := by
  obtain ⟨i, hi, e⟩ := List.getElem_of_mem h
  exact ⟨i, hi, by unfold g60; rw [List.getD_eq_getElem?_getD, List.getElem?_eq_getElem hi, ← e]; rfl⟩
theorem fault_l0 (n2 : kl.length ≤ 4) (n3 : kt.length ≤ 6) (n4 : kc.length ≤ 10) : ∀ (d j k : Nat), j + d = kl.length → d + 60 < k → (∀ i, i < j → -30 ≤ (g54 kl i).f0 ∧ (g54 kl i).f0 ≤ (g54 kl i).f1 ∧ (g54 kl i).f1 ≤ 30) → ∃ r, posserref01_Fault.l0 k (j : Int) hr gr kl kt kc = some r ∧
    (r = 0 → Vcl kl ∧ Vcp kt.length kl.length kc ∧ ∀ i, i < kt.length → (0 ≤ (g58 kt i).f0 ∧ (g58 kt i).f0 ≤ 8 ∧ 0 ≤ (g58 kt i).f1 ∧ (g58 kt i).f1 ≤ 9) ∧ of60 kc (i : Int) ≤ 2) := by
  intro d
  induction d with
  | zero =>
    intro j k hj hk hp
    obtain ⟨k, rfl⟩ : ∃ m, k = m + 1 := ⟨k - 1, by omega⟩
    have V : Vcl kl := ⟨n2, fun x hx => by obtain ⟨i, hi, rfl⟩ := mem54 hx; exact hp i (by omega)⟩
    simp only [posserref01_Fault.l0]
    rw [if_neg (by omega)]
    obtain ⟨r, e1, e2⟩ := fault_l1 hr gr kl kt kc V n3 n4 kc.length 0 k (by omega) (by omega)
    exact ⟨r, e1, fun h0 => ⟨V, ⟨n4, fun x hx => by obtain ⟨i, hi, rfl⟩ := mem60 hx; exact (e2 h0).1 i (by omega) hi⟩, (e2 h0).2⟩⟩
  | succ d ih =>
    intro j k hj hk hp
    obtain ⟨k, rfl⟩ : ∃ m, k = m + 1 := ⟨k - 1, by omega⟩
    simp only [posserref01_Fault.l0]
    rw [if_pos (by omega), if_pos (by omega), show rd_T54 kl (j : Int) = g54 kl j from rfl]
    by_cases h1 : (g54 kl j).f0 < -30
    · rw [if_pos h1]; exact ⟨1, rfl, fun h => by cases h⟩
    rw [if_neg h1]
    by_cases h2 : (g54 kl j).f0 > (g54 kl j).f1
    · rw [if_pos h2]; exact ⟨1, rfl, fun h => by cases h⟩
    rw [if_neg h2]
    by_cases h3 : (g54 kl j).f1 > 30
    · rw [if_pos h3]; exact ⟨1, rfl, fun h => by cases h⟩
    rw [if_neg h3, succ64 j (by omega)]
    refine ih (j + 1) k (by omega) (by omega) (fun i hi => ?_)
    by_cases e : i = j
    · subst e; omega
    · exact hp i (by omega)
theorem fault_f (k : Nat) (hk : 100 < k) : ∃ r, posserref01_Fault.f k hr gr kl kt kc = some r ∧ (r = 0 → Vho hr gr kl kt kc) := by
  obtain ⟨k, rfl⟩ : ∃ m, k = m + 2 := ⟨k - 2, by omega⟩
  have hj0 : ∃ r, posserref01_Fault.j0 (k + 2) true hr gr kl kt kc = some r ∧ (r = 0 → Vho hr gr kl kt kc) := by
    simp only [posserref01_Fault.j0]
    rw [if_pos trivial]
    exact ⟨3, rfl, fun h => by cases h⟩
  have hj1 : ∃ r, posserref01_Fault.j1 (k + 1) true hr gr kl kt kc = some r ∧ (r = 0 → Vho hr gr kl kt kc) := by
    simp only [posserref01_Fault.j1]
    rw [if_pos trivial]
    exact ⟨1, rfl, fun h => by cases h⟩
  unfold posserref01_Fault.f
  by_cases a1 : (kl.length : Int) > 4
  · rw [if_pos a1]; exact hj0
  rw [if_neg a1]
  by_cases a2 : (kt.length : Int) > 6
  · rw [if_pos a2]; exact hj0
  rw [if_neg a2]
  by_cases a3 : (kc.length : Int) > 10
  · rw [decide_eq_true a3]; exact hj0
  rw [decide_eq_false a3]
  simp only [posserref01_Fault.j0]
  rw [if_neg (by simp), in_f, Option.bind_some]
  by_cases a4 : 1 ≤ hr ∧ hr ≤ 120
  · rw [if_pos (by simpa using a4), in_f, Option.bind_some]
    by_cases a5 : 0 ≤ gr ∧ gr ≤ 60
    · rw [decide_eq_true a5]
      simp only [posserref01_Fault.j1]
      rw [if_neg (by simp)]
      obtain ⟨r, e1, e2⟩ := fault_l0 hr gr kl kt kc (by omega) (by omega) (by omega) kl.length 0 k (by omega) (by omega) (fun i h => by omega)
      exact ⟨r, e1, fun h0 => ⟨(e2 h0).1, by omega, (e2 h0).2.1, a4.1, a4.2, a5.1, a5.2, fun i hi => ((e2 h0).2.2 i hi).1, fun i hi => ((e2 h0).2.2 i hi).2⟩⟩
    · rw [decide_eq_false a5]; exact hj1
  · rw [if_neg (by simpa using a4)]; exact hj1
end

end Go.Proofs.Ytgdbnioodimlfaa.Wk

/- Plain laws, with no program in sight: what Fault and Thin give on floors. Conditions stand in each theorem. -/
namespace Go.Proofs.Ytgdbnioodimlfaa.Wk
open Go.RowKit Go.Proofs.YtgdbnioodimlfaaW.PrintWords Go.Proofs.YtgdbnioodimlfaaW.PrintLast Go.Proofs.YtgdbnioodimlfaaW.PrintMore Go.Proofs.Ytgdbnioodimlfaa.PTopWashed Go.Proofs.Ytgdbnioodimlfaa.Sq
attribute [local go_sem] max2_int min2_int max_two min_two max_three min_three max_four min_four
set_option linter.unusedVariables false
set_option linter.unusedSimpArgs false

/-- A valid floor of the reference, and the truths of its house. -/
structure Vfl (hr gr : Int) (kl : List S54) (kt : List S58) (kc : List S60) (tubs op clo : Int) (kq : List S54) (all : List (List Int)) : Prop where
  H : Vho hr gr kl kt kc
  ne : all ≠ []
  al : all.length ≤ 3000
  tru : ∀ t ∈ all, IsTru kl kc t
  t1 : 1 ≤ tubs
  t4 : tubs ≤ 4
  o0 : 0 ≤ op
  oc : op ≤ clo
  c1 : clo ≤ 1439
  q5 : kq.length ≤ 5
  qv : ∀ i, i < kq.length → 0 ≤ (g54 kq i).f0 ∧ (g54 kq i).f0 ≤ (g54 kq i).f1 ∧ (g54 kq i).f1 ≤ 240

section
variable (hr gr : Int) (kl : List S54) (kt : List S58) (kc : List S60) (tubs op clo : Int) (kq : List S54)
theorem fault7_l0 (hq : kq.length ≤ 5) : ∀ (d j k : Nat), j + d = kq.length → d < k → ∃ r, posserref07_Fault.l0 k (j : Int) hr gr kl kt kc tubs op clo kq = some r ∧
    (r = 0 → ∀ i, j ≤ i → i < kq.length → 0 ≤ (g54 kq i).f0 ∧ (g54 kq i).f0 ≤ (g54 kq i).f1 ∧ (g54 kq i).f1 ≤ 240) := by
  intro d
  induction d with
  | zero =>
    intro j k hj hk
    obtain ⟨k, rfl⟩ : ∃ m, k = m + 1 := ⟨k - 1, by omega⟩
    simp only [posserref07_Fault.l0]
    rw [if_neg (by omega)]
    exact ⟨0, rfl, fun _ i h1 h2 => by omega⟩
  | succ d ih =>
    intro j k hj hk
    obtain ⟨k, rfl⟩ : ∃ m, k = m + 1 := ⟨k - 1, by omega⟩
    simp only [posserref07_Fault.l0]
    rw [if_pos (by omega), if_pos (by omega), show rd_T54 kq (j : Int) = g54 kq j from rfl]
    by_cases h1 : (g54 kq j).f0 < 0
    · rw [if_pos h1]; exact ⟨1, rfl, fun h => by cases h⟩
    rw [if_neg h1]
    by_cases h2 : (g54 kq j).f0 > (g54 kq j).f1
    · rw [if_pos h2]; exact ⟨1, rfl, fun h => by cases h⟩
    rw [if_neg h2]
    by_cases h3 : (g54 kq j).f1 > 240
    · rw [if_pos h3]; exact ⟨1, rfl, fun h => by cases h⟩
    rw [if_neg h3, succ64 j (by omega)]
    obtain ⟨r, e1, e2⟩ := ih (j + 1) k (by omega) (by omega)
    refine ⟨r, e1, fun h0 i h4 h5 => ?_⟩
    by_cases e : i = j
    · subst e; omega
    · exact e2 h0 i (by omega) h5
theorem fault7_f (k : Nat) (hk : 4100 < k) : ∃ r, posserref07_Fault.f k hr gr kl kt kc tubs op clo kq = some r ∧ (r = 0 → ∃ all, posserref01_Truths.f k hr gr kl kt kc = some all ∧ Vfl hr gr kl kt kc tubs op clo kq all) := by
  obtain ⟨k, rfl⟩ : ∃ m, k = m + 2 := ⟨k - 2, by omega⟩
  obtain ⟨r0, f1, f2⟩ := fault_f hr gr kl kt kc (k + 2) (by omega)
  unfold posserref07_Fault.f
  rw [f1, Option.bind_some]
  by_cases hr0 : r0 = 0
  case neg => rw [if_neg hr0]; exact ⟨r0, rfl, fun h => absurd h hr0⟩
  rw [if_pos hr0]
  have H := f2 hr0
  obtain ⟨all, t1, t2, t3⟩ := truths_f hr gr kl kt kc kt.length H.V H.C (k + 2) (by omega)
  rw [t1, Option.bind_some]
  by_cases hn : (all.length : Int) = 0
  · rw [if_pos hn]; exact ⟨11, rfl, fun h => by cases h⟩
  rw [if_neg hn]
  have hj0 : ∀ Q : Int → Prop, ∃ r, posserref07_Fault.j0 (k + 2) true hr gr kl kt kc tubs op clo kq = some r ∧ (r = 0 → Q r) := by
    intro Q
    simp only [posserref07_Fault.j0]
    rw [if_pos trivial]
    exact ⟨3, rfl, fun h => by cases h⟩
  have hj1 : ∀ Q : Int → Prop, ∃ r, posserref07_Fault.j1 (k + 1) true hr gr kl kt kc tubs op clo kq = some r ∧ (r = 0 → Q r) := by
    intro Q
    simp only [posserref07_Fault.j1]
    rw [if_pos trivial]
    exact ⟨1, rfl, fun h => by cases h⟩
  by_cases a1 : tubs > 4
  · rw [if_pos a1]; exact hj0 _
  rw [if_neg a1]
  by_cases a2 : (kq.length : Int) > 5
  · rw [decide_eq_true a2]; exact hj0 _
  rw [decide_eq_false a2]
  simp only [posserref07_Fault.j0]
  rw [if_neg (by simp)]
  by_cases a3 : tubs < 1
  · rw [if_pos a3]; exact hj1 _
  rw [if_neg a3]
  by_cases a4 : op < 0
  · rw [if_pos a4]; exact hj1 _
  rw [if_neg a4]
  by_cases a5 : op > clo
  · rw [if_pos a5]; exact hj1 _
  rw [if_neg a5]
  by_cases a6 : clo > 1439
  · rw [decide_eq_true a6]; exact hj1 _
  rw [decide_eq_false a6]
  simp only [posserref07_Fault.j1]
  rw [if_neg (by simp)]
  obtain ⟨r, e1, e2⟩ := fault7_l0 hr gr kl kt kc tubs op clo kq (by omega) kq.length 0 k (by omega) (by omega)
  exact ⟨r, e1, fun h0 => ⟨all, rfl, H, fun h => hn (by rw [h]; rfl), t2, t3, by omega, by omega, by omega, by omega, by omega, by omega, fun i hi => e2 h0 i (by omega) hi⟩⟩
theorem thin_f (k : Nat) (hk : 4100 < k) : ∃ b, posserlaw07_Thin.f k hr gr kl kt kc tubs op clo kq = some b := by
  obtain ⟨r, f1, _⟩ := fault7_f hr gr kl kt kc tubs op clo kq k hk
  unfold posserlaw07_Thin.f posserlaw01_Thin.f
  rw [f1]
  by_cases a1 : (kl.length : Int) > 30
  · rw [if_pos a1]; exact ⟨false, rfl⟩
  rw [if_neg a1]
  by_cases a2 : (kt.length : Int) > 30
  · rw [if_pos a2]; exact ⟨false, rfl⟩
  rw [if_neg a2]
  by_cases a3 : (kc.length : Int) > 30
  · rw [if_pos a3]; exact ⟨false, rfl⟩
  rw [if_neg a3, Option.bind_some, if_pos rfl]
  by_cases a4 : (kq.length : Int) > 30
  · rw [if_pos a4]; exact ⟨false, rfl⟩
  rw [if_neg a4, Option.bind_some]
  by_cases a5 : r = 0
  · rw [if_pos a5]; exact ⟨_, rfl⟩
  · rw [if_neg a5]; exact ⟨_, rfl⟩
end

end Go.Proofs.Ytgdbnioodimlfaa.Wk
