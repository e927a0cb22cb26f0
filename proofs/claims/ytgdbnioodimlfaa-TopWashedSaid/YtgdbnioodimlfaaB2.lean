/- The contracts of the clips of a ticket, of the test of a clip, and of CheckHouse on a valid house. Conditions stand in each theorem. -/
import Derived.Test.YtgdbnioodimlfaaSeq
import Derived.Test.YtgdbnioodimlfaaB
import Derived.Test.YtgdbnioodimlfaaPTopWashedx6
namespace Go.Proofs.Ytgdbnioodimlfaa.Wk
open Go.RowKit Go.Proofs.YtgdbnioodimlfaaW.PrintWords Go.Proofs.YtgdbnioodimlfaaW.PrintLast Go.Proofs.YtgdbnioodimlfaaW.PrintMore Go.Proofs.Ytgdbnioodimlfaa.PTopWashed Go.Proofs.Ytgdbnioodimlfaa.Sq
attribute [local go_sem] max2_int min2_int max_two min_two max_three min_three max_four min_four
set_option linter.unusedVariables false
set_option linter.unusedSimpArgs false

theorem w64 {x : Int} (h0 : -9223372036854775808 ≤ x) (h1 : x ≤ 9223372036854775807) : wrap64 x = x := IntWalk.wrap64_in x ⟨h0, h1⟩
/-- The clips of a ticket. -/
def ofL (cp : List S74) (i : Int) : List S74 := cp.filter fun c => c.f0 == i
theorem of_l0 (cp : List S74) (i : Int) (h : cp.length ≤ 1000) : ∀ (d j k : Nat) (acc : List S74), j + d = cp.length → d < k → acc.length ≤ j →
    ticket_House_of.l0 k i acc cp (cp.length : Int) (j : Int) = some (acc ++ ofL (cp.drop j) i) := by
  intro d
  induction d with
  | zero =>
    intro j k acc hj hk ha
    obtain ⟨k, rfl⟩ : ∃ m, k = m + 1 := ⟨k - 1, by omega⟩
    simp only [ticket_House_of.l0]
    rw [if_neg (by omega), List.drop_of_length_le (by omega)]
    simp [ofL]
  | succ d ih =>
    intro j k acc hj hk ha
    obtain ⟨k, rfl⟩ : ∃ m, k = m + 1 := ⟨k - 1, by omega⟩
    have hjl : j < cp.length := by omega
    have hw : wrap64 ((j : Int) + 1) = ((j + 1 : Nat) : Int) := by rw [w64 (by omega) (by omega)]; omega
    have hd : cp.drop j = cp[j] :: cp.drop (j + 1) := List.drop_eq_getElem_cons hjl
    have hr : rd_T74 cp (j : Int) = cp[j] := by simp [rd_T74, hjl]
    simp only [ticket_House_of.l0]
    rw [if_pos (by omega), if_pos (by omega), if_pos (by omega), hw, hr]
    by_cases e : cp[j].f0 = i
    · have e1 : ofL (cp.drop j) i = cp[j] :: ofL (cp.drop (j + 1)) i := by rw [hd]; exact List.filter_cons_of_pos (by simpa using e)
      rw [if_pos e, if_pos (by omega), ih (j + 1) k _ (by omega) (by omega) (by simp; omega), e1, List.append_assoc]
      rfl
    · have e1 : ofL (cp.drop j) i = ofL (cp.drop (j + 1)) i := by rw [hd]; exact List.filter_cons_of_neg (by simpa using e)
      rw [if_neg e, ih (j + 1) k _ (by omega) (by omega) (by omega), e1]
theorem of_f (hr gr : Int) (cl : List S65) (ti : List S73) (cp : List S74) (i : Int) (h : cp.length ≤ 1000) : ticket_House_of.f 1001 hr gr cl ti cp i = some (ofL cp i) := by
  unfold ticket_House_of.f
  have := of_l0 cp i h cp.length 0 1001 [] (by omega) (by omega) (by simp)
  simpa using this
theorem ofL_length (cp : List S74) (i : Int) : (ofL cp i).length ≤ cp.length := List.length_filter_le _ _

/-- A house in memory: its slices read as lists. -/
structure HouseIn (w : World) (A2 : Option Addr) (c2 : Nat) (A3 : Option Addr) (c3 : Nat) (A4 : Option Addr) (c4 : Nat) (cl : List S65) (ti : List S73) (cp : List S74) : Prop where
  r2 : Kd.C k65 w A2 cl.length cl
  m2 : cl.length ≤ c2
  r3 : Kd.C k73 w A3 ti.length ti
  m3 : ti.length ≤ c3
  r4 : Kd.C k74 w A4 cp.length cp
  m4 : cp.length ≤ c4
theorem HouseIn.below {w w1 : World} {A2 : Option Addr} {c2 : Nat} {A3 : Option Addr} {c3 : Nat} {A4 : Option Addr} {c4 : Nat} {cl : List S65} {ti : List S73} {cp : List S74} (h : HouseIn w A2 c2 A3 c3 A4 c4 cl ti cp) (hb : Below w.heap.size w w1) : HouseIn w1 A2 c2 A3 c3 A4 c4 cl ti cp :=
  ⟨Kd.C_below h.r2 hb, h.m2, Kd.C_below h.r3 hb, h.m3, Kd.C_below h.r4 hb, h.m4⟩

section
variable {A2 : Option Addr} {c2 : Nat} {A3 : Option Addr} {c3 : Nat} {A4 : Option Addr} {c4 : Nat} {cl : List S65} {ti : List S73} {cp : List S74}
theorem of_calls (hr gr i : Int) (w : World) (H : HouseIn w A2 c2 A3 c3 A4 c4 cl ti cp) (h : cp.length ≤ 1000) :
    Calls Try.prog 52 #[.agg #[.int .i64 hr, .int .i64 gr, .slice A2 cl.length c2, .slice A3 ti.length c3, .slice A4 cp.length c4], .int .i64 i] w fun e w' => ∃ A c, e = .returned (.slice A (ofL cp i).length c) ∧ (ofL cp i).length ≤ c ∧ Kd.C k74 w' A (ofL cp i).length (ofL cp i) ∧ Below w.heap.size w w' := by
  refine (ticket_House_of.calls 1001 hr gr A2 c2 cl A3 c3 ti A4 c4 cp i (ofL cp i) w H.r2 H.m2 H.r3 H.m3 H.r4 H.m4 (of_f hr gr cl ti cp i h)).mono ?_
  rintro e w' ⟨v, rfl, hR, hb⟩
  obtain ⟨A, c, rfl, hc, hC⟩ := Kd.R_reads hR
  exact ⟨A, c, rfl, hc, hC, hb⟩

set_option maxHeartbeats 400000 in
theorem clip_calls (hr gr tk ck mi : Int) (w : World) (h0 : 0 ≤ tk) (h1 : tk < ti.length) (h2 : 0 ≤ ck) (h3 : ck < cl.length) (h4 : 0 ≤ mi) (h5 : mi ≤ 1439) (n2 : cl.length ≤ 1000) (n3 : ti.length ≤ 1000) :
    Calls Try.prog 61 #[.agg #[.int .i64 hr, .int .i64 gr, .slice A2 cl.length c2, .slice A3 ti.length c3, .slice A4 cp.length c4], .agg #[.int .i64 tk, .int .i64 ck, .int .i64 mi]] w fun e w' => e = .returned (.bool true) ∧ Below w.heap.size w w' := by
  go_enter Try.func61, Try.ntmps61
  go_wp2_with (first | (go_at_call 39; refine (ticket_calls hr gr tk _ _ A3 ti.length c3 _ rfl rfl h0 h1 n3).mono ?_; rintro e w2 ⟨rfl, hb⟩; obtain ⟨B1, B2, HB⟩ := two_new hb; clear hb; have b1 := B1.cl; have b2 := B2.cl) | (go_at_call 55; (with_reducible refine (within_calls ck 0 _ _ h2 (by omega)).mono ?_); rintro e w3 ⟨rfl, rfl⟩) | (go_at_call 55; (with_reducible refine (within_calls mi 0 1439 _ h4 h5).mono ?_); rintro e w3 ⟨rfl, rfl⟩))
  go_ret
  exact ⟨rfl, HB.out⟩

/-- A valid house whose clocks are each wrong by one known number. -/
structure Okh (hr gr : Int) (cl : List S65) (ti : List S73) (cp : List S74) : Prop where
  n2 : cl.length ≤ 4
  n3 : ti.length ≤ 6
  n4 : cp.length ≤ 10
  hr1 : 1 ≤ hr
  hr2 : hr ≤ 120
  gr1 : 0 ≤ gr
  gr2 : gr ≤ 60
  cl1 : ∀ x ∈ cl, x.f1 = x.f0 ∧ -30 ≤ x.f0 ∧ x.f0 ≤ 30
  ti1 : ∀ x ∈ ti, 0 ≤ x.f0 ∧ x.f0 ≤ 8 ∧ 0 ≤ x.f1 ∧ x.f1 ≤ 9
  cp1 : ∀ x ∈ cp, 0 ≤ x.f0 ∧ x.f0 < ti.length ∧ 0 ≤ x.f1 ∧ x.f1 < cl.length ∧ 0 ≤ x.f2 ∧ x.f2 ≤ 1439
  of2 : ∀ i : Nat, i < ti.length → (ofL cp i).length ≤ 2

theorem C_of_at {w : World} {g : Nat} {cs : Array Value} {t : TypeId} (h : At w g cs t) (xs : List Int) (hn : xs.length ≤ 1000) (hx : ∀ (j : Nat) (x : Int), xs[j]? = some x → cs[j]? = some (Value.int .i64 x)) : Kd.C (Kd.int .i64) w (some ⟨g, 0, none⟩) xs.length xs := by
  refine ⟨rfl, by omega, fun _ => ⟨_, rfl, fun j p hp => ⟨[.int .i64 p], rfl, rfl, fun i u hu => ?_⟩⟩⟩
  match i, hu with
  | 0, hu =>
    have e : (⟨g, 0, none⟩ : Addr).add (j * (Kd.int IntKind.i64).sz + 0) = ⟨g, j, none⟩ := by rw [add_plain]; simp [show (Kd.int IntKind.i64).sz = 1 from rfl]
    rw [e, h.cl, hx j p hp]
    exact hu
theorem size_calls (lo hi : Int) (w : World) (h : hi = lo) : Calls Try.prog 68 #[.agg #[.int .i64 lo, .int .i64 hi]] w fun e w' => e = .returned (.int .i64 1) ∧ Below w.heap.size w w' := by
  subst h
  refine ticket_Range_size.calls hi hi 1 w ?_
  unfold ticket_Range_size.f
  rw [Int.sub_self, w64 (x := 0) (by omega) (by omega), w64 (x := 0 + 1) (by omega) (by omega)]
  rfl

set_option maxHeartbeats 1000000 in
theorem CheckHouse_calls (hr gr : Int) (w : World) (H : HouseIn w A2 c2 A3 c3 A4 c4 cl ti cp) (O : Okh hr gr cl ti cp) :
    Calls Try.prog 49 #[.agg #[.int .i64 hr, .int .i64 gr, .slice A2 cl.length c2, .slice A3 ti.length c3, .slice A4 cp.length c4]] w fun e w' => e = .returned (.int .i64 0) ∧ Below w.heap.size w w' := by
  have HI := Aside0.mk H
  have HO := Aside0.mk O
  clear H O
  have d1 : decide ((4 : Int) < cl.length) = false := by have := HO.out.n2; simp; omega
  have d2 : decide ((6 : Int) < ti.length) = false := by have := HO.out.n3; simp; omega
  have d3 : decide ((10 : Int) < cp.length) = false := by have := HO.out.n4; simp; omega
  go_enter Try.func49, Try.ntmps49
  go_wp2_with (first
    | (go_at_call 55; (with_reducible refine (within_calls hr 1 120 _ HO.out.hr1 HO.out.hr2).mono ?_); rintro e w2 ⟨rfl, rfl⟩)
    | (go_at_call 55; (with_reducible refine (within_calls gr 0 60 _ HO.out.gr1 HO.out.gr2).mono ?_); rintro e w2 ⟨rfl, rfl⟩)
    | (go_at_call 62; (refine (all62_calls cl A2 c2 _ (HI.out.below (below_alloc (Below.refl _ _) _)).r2 (by have := HO.out.n2; omega) (fun x hx W hW => off_calls _ _ _ (HO.out.cl1 x hx).2.1 (by have := (HO.out.cl1 x hx).1; omega) (by have := HO.out.cl1 x hx; omega))).mono ?_); rintro e w2 ⟨rfl, hb⟩; obtain ⟨B1, HB⟩ := one_new hb; clear hb; have b1 := B1.cl)
    | (go_at_call 64; (refine (all64_calls ti A3 c3 _ (HI.out.below HB.out).r3 (by have := HO.out.n3; omega) (fun x hx W hW => valid_calls _ _ _ (HO.out.ti1 x hx).1 (HO.out.ti1 x hx).2.1 (HO.out.ti1 x hx).2.2.1 (HO.out.ti1 x hx).2.2.2)).mono ?_); rintro e w2 ⟨rfl, hb⟩; replace B1 := B1.below hb; replace HB := Aside0.mk (below_step HB.out hb); clear b1 hb; have b1 := B1.cl)
    | (go_at_call 66; (refine (all66_calls (.agg #[.int .i64 hr, .int .i64 gr, .slice A2 cl.length c2, .slice A3 ti.length c3, .slice A4 cp.length c4]) cp A4 c4 _ (HI.out.below HB.out).r4 (by have := HO.out.n4; omega) (fun x hx W hW => clip_calls hr gr _ _ _ _ (HO.out.cp1 x hx).1 (HO.out.cp1 x hx).2.1 (HO.out.cp1 x hx).2.2.1 (HO.out.cp1 x hx).2.2.2.1 (HO.out.cp1 x hx).2.2.2.2.1 (HO.out.cp1 x hx).2.2.2.2.2 (by have := HO.out.n2; omega) (by have := HO.out.n3; omega))).mono ?_); rintro e w2 ⟨rfl, hb⟩; replace B1 := B1.below hb; replace HB := Aside0.mk (below_step HB.out hb); clear b1 hb; have b1 := B1.cl))
  go_loopg [60] ti.length (fun kq v60 w' => ∃ j : Nat, v60 = .int .i64 (j : Int) ∧ Aside0 (j + kq = ti.length) ∧ At w' w.heap.size #[.int .i64 hr, .int .i64 gr, .slice A2 cl.length c2, .slice A3 ti.length c3, .slice A4 cp.length c4] 46 ∧ Aside0 (Below w.heap.size w w'))
  case atStart => exact ⟨0, rfl, ⟨by omega⟩, B1, HB⟩
  case round =>
    clear b1 B1 HB
    obtain ⟨j, rfl, HK, B1, HB⟩ := hrel
    have b1 := B1.cl
    by_cases hlt : j < ti.length
    · have d4 : decide ((2 : Int) < (ofL cp (j : Int)).length) = false := by have := HO.out.of2 j hlt; simp; omega
      obtain ⟨k1, rfl⟩ : ∃ k1, gk = k1 + 1 := ⟨gk - 1, by have := HK.out; omega⟩
      have hle := HO.out.n3
      go_wp2_with (go_at_call 52; refine (of_calls hr gr (j : Int) _ (HI.out.below HB.out) (by have := HO.out.n4; omega)).mono ?_; rintro e w3 ⟨Ao, co, rfl, _, _, hb⟩; replace B1 := B1.below hb; replace HB := Aside0.mk (below_step HB.out hb); clear b1 hb; have b1 := B1.cl)
      go_roundg k1
      case measure => omega
      case rel => exact ⟨j + 1, by go_num, ⟨by have := HK.out; omega⟩, B1, HB⟩
    · go_wp2
      go_loopg [5, 72] cl.length (fun kq v5 v72 w' => ∃ j : Nat, v5 = .int .i64 1 ∧ v72 = .int .i64 (j : Int) ∧ Aside0 (j + kq = cl.length) ∧ At w' w.heap.size #[.int .i64 hr, .int .i64 gr, .slice A2 cl.length c2, .slice A3 ti.length c3, .slice A4 cp.length c4] 46 ∧ Aside0 (Below w.heap.size w w'))
      case atStart => exact ⟨0, rfl, rfl, ⟨by omega⟩, B1, HB⟩
      case round =>
        clear b1 B1 HB HK
        obtain ⟨i, rfl, rfl, HK, B1, HB⟩ := hrel
        have b1 := B1.cl
        by_cases hlt2 : i < cl.length
        · obtain ⟨k1, rfl⟩ : ∃ k1, gk = k1 + 1 := ⟨gk - 1, by have := HK.out; omega⟩
          have hle := HO.out.n2
          obtain ⟨ad, e2, hx0, hx1⟩ := at65 (HI.out.below HB.out).r2 i hlt2
          cases e2
          have HM := Aside0.mk ((HO.out.cl1 _ (g65_mem cl i hlt2)).1)
          generalize g65 cl i = x at hx0 hx1 HM
          go_wp2_with (first
            | (go_at_call 68; (refine (size_calls _ _ _ HM.out).mono ?_); rintro e w3 ⟨rfl, hb⟩; obtain ⟨B3, HB3⟩ := one_new hb; clear hb; replace B1 := B1.below HB3.out; replace HB := Aside0.mk (below_step HB.out HB3.out); clear b1 B3 HB3; have b1 := B1.cl)
            | (go_at_call 67; (refine (minimum67_calls [1, 2001] _ 2 _ (C_of_at (At.new _ _ _) _ (by simp) ?c1) (by simp) (by simp)).mono ?_); (case c1 => intro j x hx; match j, hx with | 0, hx => (simp at hx; subst hx; rfl) | 1, hx => (simp at hx; subst hx; rfl)); rintro e w3 ⟨rfl, rfl⟩))
          go_roundg k1
          case measure => omega
          case rel => exact ⟨i + 1, rfl, by go_num, ⟨by have := HK.out; omega⟩, B1.alloc _, ⟨below_alloc HB.out _⟩⟩
        · go_wp2
          go_ret
          exact ⟨rfl, HB.out⟩
end

end Go.Proofs.Ytgdbnioodimlfaa.Wk
