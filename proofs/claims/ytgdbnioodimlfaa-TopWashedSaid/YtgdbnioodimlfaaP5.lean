/- The contract of washed. Conditions stand in each theorem. -/
import Derived.Test.YtgdbnioodimlfaaSeq
import Derived.Test.YtgdbnioodimlfaaP4
import Derived.OwnWalk
import Derived.Test.YtgdbnioodimlfaaV1
namespace Go.Proofs.Ytgdbnioodimlfaa.Wk
open Go.RowKit Go.Proofs.YtgdbnioodimlfaaW.PrintWords Go.Proofs.YtgdbnioodimlfaaW.PrintLast Go.Proofs.YtgdbnioodimlfaaW.PrintMore Go.Proofs.Ytgdbnioodimlfaa.PTopWashed Go.Proofs.Ytgdbnioodimlfaa.Sq
attribute [local go_sem] max2_int min2_int max_two min_two max_three min_three max_four min_four
set_option linter.unusedVariables false
set_option linter.unusedSimpArgs false

theorem rows_eq {a b : List Value} {n : Nat} (m : Nat) (hm : 0 < m) (ha : a.length = n * m) (hb : b.length = n * m) (h : ∀ j, j < n → ∀ i, i < m → a[j * m + i]? = b[j * m + i]?) : a = b := by
  apply List.ext_getElem?
  intro k
  by_cases hk : k < n * m
  · have h1 := h (k / m) ((Nat.div_lt_iff_lt_mul hm).2 hk) (k % m) (Nat.mod_lt _ hm)
    rwa [Nat.div_add_mod'] at h1
  · rw [List.getElem?_eq_none (by omega), List.getElem?_eq_none (by omega)]
theorem raw_of_R73 {w : World} {base : Nat} {ok : Nat → Prop} {v : Value} {xs : List S73} (h : Kd.R k73 73 w base ok v xs) : w.ownsRow base 73 2 v xs.length (raw2 (fun i => (g73 xs i).f0) (fun i => (g73 xs i).f1) xs.length) := by
  obtain ⟨_, inner, hown, hr⟩ := h
  have e : inner = raw2 (fun i => (g73 xs i).f0) (fun i => (g73 xs i).f1) xs.length := by
    refine rows_eq 2 (by omega) hr.1 (raw2_len (fun i => (g73 xs i).f0) (fun i => (g73 xs i).f1) _) fun j hj => ?_
    have hp : xs[j]? = some xs[j] := List.getElem?_eq_getElem hj
    have h1 := k73_openM (hr.2 j _ hp)
    intro i hi
    have h2 : ((inner.drop (j * 2)).take 2)[i]? = inner[j * 2 + i]? := by rw [List.getElem?_take_of_lt hi, List.getElem?_drop]
    rw [← h2]
    rw [show (inner.drop (j * 2)).take 2 = _ from h1]
    have e3 : g73 xs j = xs[j] := by unfold g73; rw [List.getD_eq_getElem?_getD, hp]; rfl
    match i, hi with
    | 0, _ => rw [raw2_get (fun i => (g73 xs i).f0) (fun i => (g73 xs i).f1) _ j 0 hj _ rfl, e3]; rfl
    | 1, _ => rw [raw2_get (fun i => (g73 xs i).f0) (fun i => (g73 xs i).f1) _ j 1 hj _ rfl, e3]; rfl
  rw [← e]
  exact hown

theorem raw_of_R74 {w : World} {base : Nat} {ok : Nat → Prop} {v : Value} {xs : List S74} (h : Kd.R k74 74 w base ok v xs) : w.ownsRow base 74 3 v xs.length (raw3 (fun i => (g74 xs i).f0) (fun i => (g74 xs i).f1) (fun i => (g74 xs i).f2) xs.length) := by
  obtain ⟨_, inner, hown, hr⟩ := h
  have e : inner = raw3 (fun i => (g74 xs i).f0) (fun i => (g74 xs i).f1) (fun i => (g74 xs i).f2) xs.length := by
    refine rows_eq 3 (by omega) hr.1 (raw3_len (fun i => (g74 xs i).f0) (fun i => (g74 xs i).f1) (fun i => (g74 xs i).f2) _) fun j hj => ?_
    have hp : xs[j]? = some xs[j] := List.getElem?_eq_getElem hj
    have h1 := k74_openM (hr.2 j _ hp)
    intro i hi
    have h2 : ((inner.drop (j * 3)).take 3)[i]? = inner[j * 3 + i]? := by rw [List.getElem?_take_of_lt hi, List.getElem?_drop]
    rw [← h2]
    rw [show (inner.drop (j * 3)).take 3 = _ from h1]
    have e3 : g74 xs j = xs[j] := by unfold g74; rw [List.getD_eq_getElem?_getD, hp]; rfl
    match i, hi with
    | 0, _ => rw [raw3_get (fun i => (g74 xs i).f0) (fun i => (g74 xs i).f1) (fun i => (g74 xs i).f2) _ j 0 hj _ rfl, e3]; rfl
    | 1, _ => rw [raw3_get (fun i => (g74 xs i).f0) (fun i => (g74 xs i).f1) (fun i => (g74 xs i).f2) _ j 1 hj _ rfl, e3]; rfl
    | 2, _ => rw [raw3_get (fun i => (g74 xs i).f0) (fun i => (g74 xs i).f1) (fun i => (g74 xs i).f2) _ j 2 hj _ rfl, e3]; rfl
  rw [← e]
  exact hown

theorem raw_of_R65 {w : World} {base : Nat} {ok : Nat → Prop} {v : Value} {xs : List S65} (h : Kd.R k65 65 w base ok v xs) : w.ownsRow base 65 2 v xs.length (raw2 (fun i => (g65 xs i).f0) (fun i => (g65 xs i).f1) xs.length) := by
  obtain ⟨_, inner, hown, hr⟩ := h
  have e : inner = raw2 (fun i => (g65 xs i).f0) (fun i => (g65 xs i).f1) xs.length := by
    refine rows_eq 2 (by omega) hr.1 (raw2_len (fun i => (g65 xs i).f0) (fun i => (g65 xs i).f1) _) fun j hj => ?_
    have hp : xs[j]? = some xs[j] := List.getElem?_eq_getElem hj
    have h1 := k65_openM (hr.2 j _ hp)
    intro i hi
    have h2 : ((inner.drop (j * 2)).take 2)[i]? = inner[j * 2 + i]? := by rw [List.getElem?_take_of_lt hi, List.getElem?_drop]
    rw [← h2]
    rw [show (inner.drop (j * 2)).take 2 = _ from h1]
    have e3 : g65 xs j = xs[j] := by unfold g65; rw [List.getD_eq_getElem?_getD, hp]; rfl
    match i, hi with
    | 0, _ => rw [raw2_get (fun i => (g65 xs i).f0) (fun i => (g65 xs i).f1) _ j 0 hj _ rfl, e3]; rfl
    | 1, _ => rw [raw2_get (fun i => (g65 xs i).f0) (fun i => (g65 xs i).f1) _ j 1 hj _ rfl, e3]; rfl
  rw [← e]
  exact hown

theorem nth65_of_own {w : World} {base n : Nat} {v : Value} {f : Nat → Int} (h : w.ownsRow base 65 2 v n (flat f n)) (k : Nat) (hk : k < n) : ∃ g cap cur, v = .slice (some ⟨g, 0, none⟩) n cap ∧ At w g cur 65 ∧ cur[k * 2]? = some (.int .i64 (f k)) ∧ cur[k * 2 + 1]? = some (.int .i64 (f k)) := by
  obtain ⟨h1, ⟨_, h2⟩ | ⟨g, cap, cur, rfl, h2, h3, h4, h5, h6, h7⟩⟩ := h
  · omega
  · exact ⟨g, cap, cur, rfl, ⟨h3⟩, take_get h7 _ _ (flat_get f n k 0 hk (by omega)), take_get h7 _ _ (flat_get f n k 1 hk (by omega))⟩
/-- The house of the example. -/
def exTi : List S73 := [⟨0, 1⟩, ⟨0, 1⟩]
def exCl : List S65 := [⟨0, 0⟩, ⟨3, 3⟩]
def exCp : List S74 := [⟨0, 0, 300⟩, ⟨0, 1, 366⟩, ⟨1, 0, 363⟩, ⟨1, 1, 396⟩]
theorem exTr : Tr 0 3 0 0 60 5 exCl exTi exCp where
  O := {
    n2 := by decide
    n3 := by decide
    n4 := by decide
    hr1 := by decide
    hr2 := by decide
    gr1 := by decide
    gr2 := by decide
    cl1 := by intro x hx; simp [exCl] at hx; rcases hx with rfl | rfl <;> decide
    ti1 := by intro x hx; simp [exTi] at hx; subst hx; decide
    cp1 := by intro x hx; simp [exCp] at hx; rcases hx with rfl | rfl | rfl | rfl <;> decide
    of2 := by intro i hi; match i, hi with | 0, _ => decide | 1, _ => decide | n + 2, h => exact absurd h (by simp [exTi]) }
  S := ⟨by decide, by decide, by decide, by decide⟩
  es := by intro i x hx; match i, hx with | 0, hx => (simp [exCl] at hx; subst hx; rfl) | 1, hx => (simp [exCl] at hx; subst hx; rfl) | n + 2, hx => simp [exCl] at hx
  ez := by intro i hi h; match i, hi, h with | 2, _, _ => rfl | 3, _, _ => rfl | 0, _, h => exact absurd h (by decide) | 1, _, h => exact absurd h (by decide)
  R := by
    intro i j hij hj
    match i, j, hij, hj with
    | 0, 1, _, _ => decide
    | 0, 2, _, _ => decide
    | 0, 3, _, _ => decide
    | 1, 2, _, _ => decide
    | 1, 3, _, _ => decide
    | 2, 3, _, _ => decide
    | _, n + 4, _, h => exact absurd h (by simp [exCp])
    | n + 3, 3, h, _ => exact absurd h (by omega)
    | n + 2, 2, h, _ => exact absurd h (by omega)
    | n + 1, 1, h, _ => exact absurd h (by omega)
theorem exApart : Apart 0 3 0 0 exTi exCp 0 1 := .inr (.inr ⟨by decide, by decide, by decide⟩)
theorem exOpen : opn exTi exCp 0 = false := by decide
theorem exFrom : frmK 0 3 0 0 exTi exCp 0 exTi.length = 393 := by decide
theorem exHrs : hrs 60 5 0 3 0 0 (ofL exCp 1) = 1 := by decide
theorem eq65 (a b c d : Int) (w : World) : (Op.equal 65 (.agg #[.int .i64 a, .int .i64 b]) (.agg #[.int .i64 c, .int .i64 d])).run Try.prog w = .ok ((a == c) && (b == d)) w := by
  unfold Op.equal
  refine eqA_of Try.underlying65 (by kernel_rfl) ?_
  refine eqf_cons (by rfl) (a := .int .i64 a) (b := .int .i64 c) ?_ ?_ ?_ (eqf_last (by rfl) (a := .int .i64 b) (b := .int .i64 d) ?_ ?_ ?_)
  all_goals go_simp

theorem twoTubs_calls (w : World) : Calls Try.prog 19 #[.agg #[.int .i64 3, .int .i64 3]] w fun e w' => ∃ v2 v3 v4 v8 : Value, e = .returned (.agg #[.int .i64 60, .int .i64 5, v2, v3, v4, .int .i64 2, .int .i64 0, .int .i64 500, v8]) ∧ w'.ownsRow w.heap.size 65 2 v2 2 [.int .i64 0, .int .i64 0, .int .i64 3, .int .i64 3] ∧ w'.ownsRow w.heap.size 73 2 v3 1 [.int .i64 0, .int .i64 1] ∧ w'.ownsRow w.heap.size 74 3 v4 2 [.int .i64 0, .int .i64 0, .int .i64 300, .int .i64 0, .int .i64 1, .int .i64 366] ∧ Below w.heap.size w w' := by
  refine (possertop_twoTubs.calls 3 3 60 5 [⟨0, 0⟩, ⟨3, 3⟩] [⟨0, 1⟩] [⟨0, 0, 300⟩, ⟨0, 1, 366⟩] 2 0 500 [⟨30, 40⟩] w rfl).mono ?_
  rintro e w1 ⟨v2, v3, v4, v8, rfl, r2, r3, r4, _, hb⟩
  exact ⟨v2, v3, v4, v8, rfl, raw_of_R65 r2, raw_of_R73 r3, raw_of_R74 r4, hb⟩

theorem field48 (hr gr : Int) (s2 s3 s4 : Value) (x y z : Int) (s8 : Value) (w : World) : (Instr.field 48 (.agg #[.int .i64 hr, .int .i64 gr, s2, s3, s4, .int .i64 x, .int .i64 y, .int .i64 z, s8]) 0).run Try.prog w = .ok (.agg #[.int .i64 hr, .int .i64 gr, s2, s3, s4]) w := by
  kernel_rfl

set_option maxHeartbeats 2000000 in
theorem washed_calls (w : World) : Calls Try.prog 6 #[] w fun e w' => e = .returned (.bool true) ∧ Below w.heap.size w w' := by

  have hfd := field48
  go_enter Try.func6, Try.ntmps6
  go_upto_region 2 with (go_at_call 19; refine (twoTubs_calls _).mono ?_; rintro e w1 ⟨v2, v3, v4, v8, rfl, h2, h3, h4, hb⟩; obtain ⟨V2, k2, hv2⟩ := own_form h2; obtain ⟨V3, k3, hv3⟩ := own_form h3; obtain ⟨V4, k4, hv4⟩ := own_form h4; subst hv2 hv3 hv4; have H2 := Aside0.mk h2; have H3 := Aside0.mk h3; have H4 := Aside0.mk h4; have HB := Aside0.mk hb; clear h2 h3 h4 hb)
  refine wp_new1 fun w2 B1 HB2 HZ2 => ?_
  have HM := Aside0.mk B1
  replace H2 := Aside0.mk (own_below H2.out HB2.out)
  replace H3 := Aside0.mk (own_below H3.out HB2.out)
  replace H4 := Aside0.mk (own_below H4.out HB2.out)
  have hgw : w.heap.size ≤ w1.heap.size := HB.out.size
  replace HB := Aside0.mk (below_step HB.out HB2.out)
  generalize w1.heap.size = g at B1 HM hgw ⊢
  clear B1 HB2 HZ2
  have bba := HM.out.cl
  have lba := HM.out.lt
  obtain ⟨iea, hi1, hi2, hi3, hi4⟩ := info73'
  have HIa := Aside0.mk (And.intro hi1 (And.intro hi2 (And.intro hi3 hi4)))
  clear hi1 hi2 hi3 hi4
  go_upto_region 3 with (at_builtin; refine wpList_append_own _ rfl (.tmp 12) (.tmp 14) 43 rfl w.heap.size 73 iea _ 2 16 Try.underlying43 HIa.out.1 HIa.out.2.1 HIa.out.2.2.1 HIa.out.2.2.2 rfl (by omega) (.slice V3 1 k3) (1) ([.int .i64 0, .int .i64 1]) rfl (own_alloc H3.out _) ⟨w2.heap.size, 0, none⟩ 1 1 [.int .i64 0, .int .i64 1] rfl rfl ?news (by simp [Value.oneCell']) (by first | decide | (unfold maxLen; omega)) (by omega) ?base ?_; (case news => intro k u hk; match k, hk with | 0, hk => (simp at hk; subst hk; simp [Addr.add, (At.new w2 _ _).cl]) | 1, hk => (simp at hk; subst hk; simp [Addr.add, (At.new w2 _ _).cl])); (case base => (have := HB.out.size; simp; omega)); intro v2' wa hown hgr _; obtain ⟨N3, kN3, hv⟩ := own_form hown; subst hv; have HOa := Aside0.mk hown; have HGa := Aside0.mk hgr; clear hown hgr bba lba; have Ca := at_grown (HM.out.alloc (.cells #[.int .i64 0, .int .i64 1] 73)) HGa.out (own_ne_at H3.out HM.out (by decide)); have bba := Ca.cl; have ffa := Ca.fr)
  have hbda := below_alloc (Below.refl w2.heap.size w2) (.cells #[.int .i64 0, .int .i64 1] 73)
  have HBna := pw_below_grown (below_alloc HB.out (.cells #[.int .i64 0, .int .i64 1] 73)) _ (by have h1 := HB.out.size; simp; omega) HGa.out (own_ge H3.out)
  have E2a : At (wa.setCell ⟨g, 3, none⟩ (.slice N3 (2) kN3)) (g) #[.int .i64 60, .int .i64 5, .slice V2 2 k2, .slice N3 (2) kN3, .slice V4 2 k4] 46 := by have := Ca.set 3 (.slice N3 (2) kN3); simpa using this
  have F2a := own_set HOa.out (own_ne_at HOa.out Ca (by decide)) 3 (.slice N3 (2) kN3)
  have HBza := HBna.setCell (p := ⟨g, 3, none⟩) (by show w.heap.size ≤ g; omega) (.slice N3 (2) kN3)
  have D_H2 := own_grown (own_below H2.out hbda) HGa.out (own_ne_own (own_below H2.out hbda) (own_below H3.out hbda) (by decide))
  have F_H2 := own_set D_H2 (own_ne_at D_H2 Ca (by decide)) 3 (.slice N3 (2) kN3)
  have D_H4 := own_grown (own_below H4.out hbda) HGa.out (own_ne_own (own_below H4.out hbda) (own_below H3.out hbda) (by decide))
  have F_H4 := own_set D_H4 (own_ne_at D_H4 Ca (by decide)) 3 (.slice N3 (2) kN3)
  clear bba ffa Ca HBna hbda HOa HGa HIa H3 HM HB D_H2 D_H4 H2 H4
  generalize wa.setCell ⟨g, 3, none⟩ (.slice N3 (2) kN3) = wza at E2a F2a HBza F_H2 F_H4 ⊢
  have HM := Aside0.mk E2a
  have H3 := Aside0.mk F2a
  have HB := Aside0.mk HBza
  have H2 := Aside0.mk F_H2
  have H4 := Aside0.mk F_H4
  clear E2a F2a HBza F_H2 F_H4

  have bbb := HM.out.cl
  have lbb := HM.out.lt
  obtain ⟨ieb, hi1, hi2, hi3, hi4⟩ := info74'
  have HIb := Aside0.mk (And.intro hi1 (And.intro hi2 (And.intro hi3 hi4)))
  clear hi1 hi2 hi3 hi4
  go_upto_region 4 with (at_builtin; refine wpList_append_own _ rfl (.tmp 18) (.tmp 21) 44 rfl w.heap.size 74 ieb _ 3 24 Try.underlying44 HIb.out.1 HIb.out.2.1 HIb.out.2.2.1 HIb.out.2.2.2 rfl (by omega) (.slice V4 2 k4) (2) ([.int .i64 0, .int .i64 0, .int .i64 300, .int .i64 0, .int .i64 1, .int .i64 366]) rfl (own_alloc H4.out _) ⟨wza.heap.size, 0, none⟩ 2 2 [.int .i64 1, .int .i64 0, .int .i64 363, .int .i64 1, .int .i64 1, .int .i64 396] rfl rfl ?news (by simp [Value.oneCell']) (by first | decide | (unfold maxLen; omega)) (by omega) ?base ?_; (case news => intro k u hk; match k, hk with | 0, hk => (simp at hk; subst hk; simp [Addr.add, (At.new wza _ _).cl]) | 1, hk => (simp at hk; subst hk; simp [Addr.add, (At.new wza _ _).cl]) | 2, hk => (simp at hk; subst hk; simp [Addr.add, (At.new wza _ _).cl]) | 3, hk => (simp at hk; subst hk; simp [Addr.add, (At.new wza _ _).cl]) | 4, hk => (simp at hk; subst hk; simp [Addr.add, (At.new wza _ _).cl]) | 5, hk => (simp at hk; subst hk; simp [Addr.add, (At.new wza _ _).cl])); (case base => (have := HB.out.size; simp; omega)); intro v2' wb hown hgr _; obtain ⟨N4, kN4, hv⟩ := own_form hown; subst hv; have HOb := Aside0.mk hown; have HGb := Aside0.mk hgr; clear hown hgr bbb lbb; have Cb := at_grown (HM.out.alloc (.cells #[.int .i64 1, .int .i64 0, .int .i64 363, .int .i64 1, .int .i64 1, .int .i64 396] 74)) HGb.out (own_ne_at H4.out HM.out (by decide)); have bbb := Cb.cl; have ffb := Cb.fr)
  have hbdb := below_alloc (Below.refl wza.heap.size wza) (.cells #[.int .i64 1, .int .i64 0, .int .i64 363, .int .i64 1, .int .i64 1, .int .i64 396] 74)
  have HBnb := pw_below_grown (below_alloc HB.out (.cells #[.int .i64 1, .int .i64 0, .int .i64 363, .int .i64 1, .int .i64 1, .int .i64 396] 74)) _ (by have h1 := HB.out.size; simp; omega) HGb.out (own_ge H4.out)
  have E2b : At (wb.setCell ⟨g, 4, none⟩ (.slice N4 (4) kN4)) (g) #[.int .i64 60, .int .i64 5, .slice V2 2 k2, .slice N3 2 kN3, .slice N4 (4) kN4] 46 := by have := Cb.set 4 (.slice N4 (4) kN4); simpa using this
  have F2b := own_set HOb.out (own_ne_at HOb.out Cb (by decide)) 4 (.slice N4 (4) kN4)
  have HBzb := HBnb.setCell (p := ⟨g, 4, none⟩) (by show w.heap.size ≤ g; omega) (.slice N4 (4) kN4)
  have D_H2 := own_grown (own_below H2.out hbdb) HGb.out (own_ne_own (own_below H2.out hbdb) (own_below H4.out hbdb) (by decide))
  have F_H2 := own_set D_H2 (own_ne_at D_H2 Cb (by decide)) 4 (.slice N4 (4) kN4)
  have D_H3 := own_grown (own_below H3.out hbdb) HGb.out (own_ne_own (own_below H3.out hbdb) (own_below H4.out hbdb) (by decide))
  have F_H3 := own_set D_H3 (own_ne_at D_H3 Cb (by decide)) 4 (.slice N4 (4) kN4)
  clear bbb ffb Cb HBnb hbdb HOb HGb HIb H4 HM HB D_H2 D_H3 H2 H3
  generalize wb.setCell ⟨g, 4, none⟩ (.slice N4 (4) kN4) = wzb at E2b F2b HBzb F_H2 F_H3 ⊢
  have HM := Aside0.mk E2b
  have H4 := Aside0.mk F2b
  have HB := Aside0.mk HBzb
  have H2 := Aside0.mk F_H2
  have H3 := Aside0.mk F_H3
  clear E2b F2b HBzb F_H2 F_H3

  have hC2 : 2 ≤ k2 ∧ Kd.C k65 wzb V2 2 exCl := by
    obtain ⟨A, cap, hv, hle, hC⟩ := C65_of_raw (xs := exCl) H2.out rfl (by decide)
    injection hv with h1 h2 h3
    subst h1 h3
    exact ⟨hle, hC⟩
  have hC3 : 2 ≤ kN3 ∧ Kd.C k73 wzb N3 2 exTi := by
    obtain ⟨A, cap, hv, hle, hC⟩ := C73_of_raw (xs := exTi) H3.out rfl (by decide)
    injection hv with h1 h2 h3
    subst h1 h3
    exact ⟨hle, hC⟩
  have hC4 : 4 ≤ kN4 ∧ Kd.C k74 wzb N4 4 exCp := by
    obtain ⟨A, cap, hv, hle, hC⟩ := C74_of_raw (xs := exCp) H4.out rfl (by decide)
    injection hv with h1 h2 h3
    subst h1 h3
    exact ⟨hle, hC⟩
  have HH := Aside0.mk (show HouseIn wzb V2 k2 N3 kN3 N4 kN4 exCl exTi exCp from ⟨hC2.2, hC2.1, hC3.2, hC3.1, hC4.2, hC4.1⟩)
  have HG := Aside0.mk hgw
  clear hC2 hC3 hC4 H2 H3 H4 hgw
  have bb := HM.out.cl
  go_upto_region 5 with (go_at_call 14; refine (Hours_calls 0 3 0 0 60 5 _ HH.out exTr).mono ?_; rintro e wc ⟨v, rfl, hl, hb⟩; have HL := Aside0.mk hl; replace HM := Aside0.mk (HM.out.below hb); replace HH := Aside0.mk (HH.out.below hb); replace HB := Aside0.mk (below_step HB.out hb); clear hl hb bb; have bb := HM.out.cl)
  obtain ⟨gl, cl, cul, hvl, hAl, hl2, hl3⟩ := nth65_of_own HL.out 1 (by decide)
  subst hvl
  have HAL := Aside0.mk hAl
  have hx1 : hrs 60 5 0 3 0 0 (ofL exCp ((1 : Nat) : Int)) = 1 := exHrs
  rw [hx1] at hl2 hl3
  have HL2 := Aside0.mk (And.intro hl2 hl3)
  clear hAl hl2 hl3 hx1 HL
  go_upto_region 7 with (first
    | (go_at_call 17; refine (Clash_calls 0 3 0 0 60 5 0 1 _ HH.out exTr (by decide) (by decide) (by decide) exApart).mono ?_; rintro e wd ⟨rfl, hb⟩; replace HM := Aside0.mk (HM.out.below hb); replace HH := Aside0.mk (HH.out.below hb); replace HAL := Aside0.mk (HAL.out.below hb); replace HB := Aside0.mk (below_step HB.out hb); clear hb bb; have bb := HM.out.cl)
    | (go_at_call 16; refine (Free_calls 0 3 0 0 60 5 0 _ HH.out exTr (by decide) (by decide) exOpen).mono ?_; rw [exFrom]; rintro e wd ⟨rfl, hb⟩; replace HM := Aside0.mk (HM.out.below hb); replace HH := Aside0.mk (HH.out.below hb); replace HAL := Aside0.mk (HAL.out.below hb); replace HB := Aside0.mk (below_step HB.out hb); clear hb bb))
  refine wp_new1 fun we B6 HB6 HZ6 => ?_
  have hl := (HAL.out.below HB6.out)
  have c2 : we.cell? ⟨gl, 2, none⟩ = some (.int .i64 1) := (hl.cl 2).trans HL2.out.1
  have c3 : we.cell? ⟨gl, 3, none⟩ = some (.int .i64 1) := (hl.cl 3).trans HL2.out.2
  have b6 := B6.cl
  have he := eq65
  replace HB := Aside0.mk (below_step HB.out HB6.out)
  clear hl hfd
  go_wp2
  go_ret
  exact ⟨rfl, HB.out⟩

end Go.Proofs.Ytgdbnioodimlfaa.Wk
