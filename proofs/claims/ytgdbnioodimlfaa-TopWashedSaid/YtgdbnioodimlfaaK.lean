/- The contracts of Clocks, Hours, Free and Clash, for a house with one truth. Conditions stand in each theorem. -/
import Derived.Test.YtgdbnioodimlfaaSeq
import Derived.Test.YtgdbnioodimlfaaJ
namespace Go.Proofs.Ytgdbnioodimlfaa.Wk
open Go.RowKit Go.Proofs.YtgdbnioodimlfaaW.PrintWords Go.Proofs.YtgdbnioodimlfaaW.PrintLast Go.Proofs.YtgdbnioodimlfaaW.PrintMore Go.Proofs.Ytgdbnioodimlfaa.PTopWashed Go.Proofs.Ytgdbnioodimlfaa.Sq
attribute [local go_sem] max2_int min2_int max_two min_two max_three min_three max_four min_four
set_option linter.unusedVariables false
set_option linter.unusedSimpArgs false

section
variable {A2 : Option Addr} {c2 : Nat} {A3 : Option Addr} {c3 : Nat} {A4 : Option Addr} {c4 : Nat} {cl : List S65} {ti : List S73} {cp : List S74}
/-- A house, and the errors of its clocks, which are a truth. -/
structure Tr (e0 e1 e2 e3 hr gr : Int) (cl : List S65) (ti : List S73) (cp : List S74) : Prop where
  O : Okh hr gr cl ti cp
  S : Small e0 e1 e2 e3
  es : ∀ (i : Nat) (x : S65), cl[i]? = some x → (#[e0, e1, e2, e3] : Array Int)[i]? = some x.f0
  ez : ∀ i, i < 4 → cl.length ≤ i → (#[e0, e1, e2, e3] : Array Int)[i]? = some 0
  R : ∀ i j : Nat, i < j → j < cp.length → tm e0 e1 e2 e3 (g74 cp i) ≤ tm e0 e1 e2 e3 (g74 cp j)

set_option maxHeartbeats 1000000 in
theorem askedDue_calls (e0 e1 e2 e3 hr gr d : Int) (w : World) (H : HouseIn w A2 c2 A3 c3 A4 c4 cl ti cp) (T : Tr e0 e1 e2 e3 hr gr cl ti cp) (hd : d ≠ 0) :
    Calls Try.prog 32 #[.agg #[.int .i64 hr, .int .i64 gr, .slice A2 cl.length c2, .slice A3 ti.length c3, .slice A4 cp.length c4], .int .i64 d] w fun e w' => e = .returned (.tuple #[.pointer none, .int .i64 d]) ∧ Below w.heap.size w w' := by
  have HI := Aside0.mk H
  have HT := Aside0.mk T
  clear H T
  have hq : (d != 0) = true := by simpa using hd
  refine (callsIn_wide (n := 1)).1 (callsIn_of_wp_marks Try.func32 rfl trivial (wpIn_wide.2 ?_) rfl)
  simp only [Try.ntmps32, List.size_toArray, List.length_cons, List.length_nil, Nat.reduceAdd, Nat.reduceSub, Array.replicate_succ, Array.replicate_zero, List.push_toArray, List.append_toArray, List.nil_append, List.cons_append]
  go_wp2_with (go_at_call 49; refine (CheckHouse_calls hr gr _ (HI.out.below (below_alloc (Below.refl _ _) _)) HT.out.O).mono ?_; rintro e w2 ⟨rfl, hb⟩; obtain ⟨B1, HB⟩ := one_new hb; clear hb)
  exact ⟨.tuple #[.pointer none, .int .i64 d], by simp [results, Try.f32, go_sem], rfl, HB.out⟩

def flat (f : Nat → Int) (n : Nat) : List Value := (List.range n).flatMap fun i => [.int .i64 (f i), .int .i64 (f i)]
theorem flat_succ (f : Nat → Int) (n : Nat) : flat f (n + 1) = flat f n ++ [.int .i64 (f n), .int .i64 (f n)] := by simp [flat, List.range_succ, List.flatMap_append]
section
variable {w w' : World} {base e size n : Nat} {v : Value} {xs : List Value}
theorem own_below (h : w.ownsRow base e size v n xs) (hb : Below w.heap.size w w') : w'.ownsRow base e size v n xs := by
  obtain ⟨h0, h1 | ⟨g, cap, cur, h1, h2, h3, h4⟩⟩ := h
  · exact ⟨h0, .inl h1⟩
  · exact ⟨h0, .inr ⟨g, cap, cur, h1, h2, (hb.block _ (Array.getElem?_eq_some_iff.1 h3).1).trans h3, h4⟩⟩
theorem own_alloc (h : w.ownsRow base e size v n xs) (o : Obj) : (w.alloc o).ownsRow base e size v n xs := own_below h (below_alloc (Below.refl _ _) _)
theorem own_ge (h : w.ownsRow base e size v n xs) : ∀ k, v.ownBlock = some k → base ≤ k := by
  intro k hk
  obtain ⟨h0, ⟨rfl, _⟩ | ⟨g, cap, cur, rfl, h2, h3, h4⟩⟩ := h
  · cases hk
  · cases hk; exact h2
theorem own_base {b2 : Nat} (h : w.ownsRow base e size v n xs) (hb : b2 ≤ base) : w.ownsRow b2 e size v n xs := by
  obtain ⟨h0, h1 | ⟨g, cap, cur, h1, h2, h3⟩⟩ := h
  · exact ⟨h0, .inl h1⟩
  · exact ⟨h0, .inr ⟨g, cap, cur, h1, Nat.le_trans hb h2, h3⟩⟩
end
theorem info65' : ∃ i, Try.prog.info? 65 = some i ∧ i.zero = some (.agg #[.int .i64 0, .int .i64 0]) ∧ i.size = 2 ∧ i.bytes = 16 := by
  have h := info65
  cases e : Try.prog.info? 65 with
  | none => rw [e] at h; cases h
  | some i =>
    rw [e] at h
    simp at h
    exact ⟨i, rfl, h.1, h.2.1, h.2.2⟩

set_option maxHeartbeats 1000000 in
theorem Clocks_calls (e0 e1 e2 e3 hr gr : Int) (w : World) (H : HouseIn w A2 c2 A3 c3 A4 c4 cl ti cp) (T : Tr e0 e1 e2 e3 hr gr cl ti cp) :
    Calls Try.prog 56 #[.agg #[.int .i64 hr, .int .i64 gr, .slice A2 cl.length c2, .slice A3 ti.length c3, .slice A4 cp.length c4]] w fun e w' => ∃ v, e = .returned (.tuple #[v, .int .i64 0]) ∧ w'.ownsRow w.heap.size 65 2 v cl.length (flat (fun i => sel4 e0 e1 e2 e3 i) cl.length) ∧ Below w.heap.size w w' := by
  have HI := Aside0.mk H
  have HT := Aside0.mk T
  clear H T
  have hlen : cl.length ≤ 1000 := by have := HT.out.O.n2; have := HT.out.O.n3; omega
  go_enter Try.func56, Try.ntmps56
  go_upto_region 5 with (go_at_call 32; refine (asked_calls hr gr e0 e1 e2 e3 _ (HI.out.below (below_alloc (Below.refl _ _) _)) HT.out.O HT.out.S HT.out.es HT.out.ez HT.out.R).mono ?_; rintro e w2 ⟨b, rfl, HW, hb⟩; obtain ⟨B1, HB⟩ := one_new hb; have HWW := Aside0.mk HW; clear hb HW)
  have b1 := B1.cl
  go_wp2
  clear b1
  go_loopg [6, 19] cl.length (fun kq v6 v19 w' => ∃ j : Nat, v19 = .int .i64 (j : Int) ∧ Aside0 (j + kq = cl.length) ∧ Aside0 (w'.ownsRow w2.heap.size 65 2 v6 j (flat (fun i => sel4 e0 e1 e2 e3 i) j)) ∧ Aside0 (Below w2.heap.size w2 w'))
  case atStart => exact ⟨0, rfl, ⟨by omega⟩, ⟨World.ownsRow_nil _ _ _ _⟩, ⟨Below.refl _ _⟩⟩
  case round =>
    clear B1
    obtain ⟨j, rfl, HK, HR, HB2⟩ := hrel
    by_cases hlt2 : j < cl.length
    · obtain ⟨k1, rfl⟩ : ∃ k1, gk = k1 + 1 := ⟨gk - 1, by have := HK.out; omega⟩
      obtain ⟨i65, hi1, hi2, hi3, hi4⟩ := info65'
      have H65 := Aside0.mk (And.intro hi1 (And.intro hi2 (And.intro hi3 hi4)))
      clear hi1 hi2 hi3 hi4
      have hwr := HB2.out.size
      have hj1000 : j < 1000 := by omega
      go_wp2_with (first
        | (go_at_call 34; refine (bounds_calls 71 b (j : Int) (sel4 e0 e1 e2 e3 j) _ hr gr e0 e1 e2 e3 _ rfl (HWW.out.below HB2.out) (fun W' hW => off71_calls e0 e1 e2 e3 _ j W' (by have := HT.out.O.n2; omega) rfl) (fun args w => call_enter Try.func71 (by kernel_rfl) rfl args w)).mono ?_; rintro e w7 ⟨rfl, hb7⟩; have H7 := Aside0.mk hb7; clear hb7)
        | (refine wpList_append_own _ rfl (.tmp 22) (.tmp 27) 42 rfl w2.heap.size 65 i65 _ 2 16 Try.underlying42 H65.out.1 H65.out.2.1 H65.out.2.2.1 H65.out.2.2.2 rfl (by omega) _ j (flat (fun i => sel4 e0 e1 e2 e3 i) j) rfl (own_alloc (own_below HR.out H7.out) _) ⟨_, 0, none⟩ 1 1 [.int .i64 (sel4 e0 e1 e2 e3 j), .int .i64 (sel4 e0 e1 e2 e3 j)] rfl rfl ?news (by simp [Value.oneCell']) (by unfold maxLen; omega) (by omega) ?base ?_; (case news => intro k u hk; match k, hk with | 0, hk => (simp at hk; subst hk; simp [Addr.add, (At.new w7 _ _).cl]) | 1, hk => (simp at hk; subst hk; simp [Addr.add, (At.new w7 _ _).cl])); (case base => (have := H7.out.size; simp; omega)); intro v' w8 hown hgr _; have HO8 := Aside0.mk hown; have HG8 := Aside0.mk hgr; clear hown hgr))
      go_roundg k1
      case measure => omega
      case rel => exact ⟨j + 1, by go_num, ⟨by have := HK.out; omega⟩, ⟨by rw [flat_succ]; exact HO8.out⟩, ⟨pw_below_grown (below_alloc (below_then HB2.out HB2.out.size H7.out) _) _ (by have := H7.out.size; simp; omega) HG8.out (own_ge HR.out)⟩⟩
    · have hj : j = cl.length := by have := HK.out; omega
      subst hj
      go_wp2
      go_ret2
      exact ⟨_, rfl, own_base HR.out HB.out.size, below_then HB.out HB.out.size HB2.out⟩

set_option maxHeartbeats 1000000 in
theorem Hours_calls (e0 e1 e2 e3 hr gr : Int) (w : World) (H : HouseIn w A2 c2 A3 c3 A4 c4 cl ti cp) (T : Tr e0 e1 e2 e3 hr gr cl ti cp) :
    Calls Try.prog 14 #[.agg #[.int .i64 hr, .int .i64 gr, .slice A2 cl.length c2, .slice A3 ti.length c3, .slice A4 cp.length c4]] w fun e w' => ∃ v, e = .returned (.tuple #[v, .int .i64 0]) ∧ w'.ownsRow w.heap.size 65 2 v ti.length (flat (fun i => hrs hr gr e0 e1 e2 e3 (ofL cp i)) ti.length) ∧ Below w.heap.size w w' := by
  have HI := Aside0.mk H
  have HT := Aside0.mk T
  clear H T
  have hlen : ti.length ≤ 1000 := by have := HT.out.O.n2; have := HT.out.O.n3; omega
  go_enter Try.func14, Try.ntmps14
  go_upto_region 5 with (go_at_call 32; refine (asked_calls hr gr e0 e1 e2 e3 _ (HI.out.below (below_alloc (Below.refl _ _) _)) HT.out.O HT.out.S HT.out.es HT.out.ez HT.out.R).mono ?_; rintro e w2 ⟨b, rfl, HW, hb⟩; obtain ⟨B1, HB⟩ := one_new hb; have HWW := Aside0.mk HW; clear hb HW)
  have b1 := B1.cl
  go_wp2
  clear b1
  go_loopg [6, 19] ti.length (fun kq v6 v19 w' => ∃ j : Nat, v19 = .int .i64 (j : Int) ∧ Aside0 (j + kq = ti.length) ∧ Aside0 (w'.ownsRow w2.heap.size 65 2 v6 j (flat (fun i => hrs hr gr e0 e1 e2 e3 (ofL cp i)) j)) ∧ Aside0 (Below w2.heap.size w2 w'))
  case atStart => exact ⟨0, rfl, ⟨by omega⟩, ⟨World.ownsRow_nil _ _ _ _⟩, ⟨Below.refl _ _⟩⟩
  case round =>
    clear B1
    obtain ⟨j, rfl, HK, HR, HB2⟩ := hrel
    by_cases hlt2 : j < ti.length
    · obtain ⟨k1, rfl⟩ : ∃ k1, gk = k1 + 1 := ⟨gk - 1, by have := HK.out; omega⟩
      obtain ⟨i65, hi1, hi2, hi3, hi4⟩ := info65'
      have H65 := Aside0.mk (And.intro hi1 (And.intro hi2 (And.intro hi3 hi4)))
      clear hi1 hi2 hi3 hi4
      have hwr := HB2.out.size
      have hj1000 : j < 1000 := by omega
      go_wp2_with (first
        | (go_at_call 34; refine (bounds_calls 33 b (j : Int) (hrs hr gr e0 e1 e2 e3 (ofL cp j)) _ hr gr e0 e1 e2 e3 _ rfl (HWW.out.below HB2.out) (fun W' hW => hours_calls hr gr e0 e1 e2 e3 b j W' (HI.out.below (below_then HB.out HB.out.size (below_then HB2.out HB2.out.size hW))) HT.out.O HT.out.S (HWW.out.below (below_then HB2.out HB2.out.size hW))) (fun args w => call_enter Try.func33 (by kernel_rfl) rfl args w)).mono ?_; rintro e w7 ⟨rfl, hb7⟩; have H7 := Aside0.mk hb7; clear hb7)
        | (refine wpList_append_own _ rfl (.tmp 22) (.tmp 27) 42 rfl w2.heap.size 65 i65 _ 2 16 Try.underlying42 H65.out.1 H65.out.2.1 H65.out.2.2.1 H65.out.2.2.2 rfl (by omega) _ j (flat (fun i => hrs hr gr e0 e1 e2 e3 (ofL cp i)) j) rfl (own_alloc (own_below HR.out H7.out) _) ⟨_, 0, none⟩ 1 1 [.int .i64 (hrs hr gr e0 e1 e2 e3 (ofL cp j)), .int .i64 (hrs hr gr e0 e1 e2 e3 (ofL cp j))] rfl rfl ?news (by simp [Value.oneCell']) (by unfold maxLen; omega) (by omega) ?base ?_; (case news => intro k u hk; match k, hk with | 0, hk => (simp at hk; subst hk; simp [Addr.add, (At.new w7 _ _).cl]) | 1, hk => (simp at hk; subst hk; simp [Addr.add, (At.new w7 _ _).cl])); (case base => (have := H7.out.size; simp; omega)); intro v' w8 hown hgr _; have HO8 := Aside0.mk hown; have HG8 := Aside0.mk hgr; clear hown hgr))
      go_roundg k1
      case measure => omega
      case rel => exact ⟨j + 1, by go_num, ⟨by have := HK.out; omega⟩, ⟨by rw [flat_succ]; exact HO8.out⟩, ⟨pw_below_grown (below_alloc (below_then HB2.out HB2.out.size H7.out) _) _ (by have := H7.out.size; simp; omega) HG8.out (own_ge HR.out)⟩⟩
    · have hj : j = ti.length := by have := HK.out; omega
      subst hj
      go_wp2
      go_ret2
      exact ⟨_, rfl, own_base HR.out HB.out.size, below_then HB.out HB.out.size HB2.out⟩

end

end Go.Proofs.Ytgdbnioodimlfaa.Wk
