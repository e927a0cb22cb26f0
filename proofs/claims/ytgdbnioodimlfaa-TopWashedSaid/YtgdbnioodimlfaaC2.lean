/- The contract of the iterator of lists, where each clock has one number: yield is called once. Conditions stand in each theorem. -/
import Derived.Test.YtgdbnioodimlfaaSeq
import Derived.Test.YtgdbnioodimlfaaC
import Derived.RangeFuncNested
import Derived.RangeFuncBound
import Derived.RangeFuncCalls
import Derived.RangeFuncLeaves
import Derived.OwnWalkIn
import Derived.TacticsInMore
import Derived.LoopNIn
import Derived.LoopIn
import Derived.Laws.EntriesVeiled
namespace Go.Proofs.Ytgdbnioodimlfaa.Wk
open Go.RowKit Go.Proofs.YtgdbnioodimlfaaW.PrintWords Go.Proofs.YtgdbnioodimlfaaW.PrintLast Go.Proofs.YtgdbnioodimlfaaW.PrintMore Go.Proofs.Ytgdbnioodimlfaa.PTopWashed Go.Proofs.Ytgdbnioodimlfaa.Sq
attribute [local go_sem] max2_int min2_int max_two min_two max_three min_three max_four min_four
set_option linter.unusedVariables false
set_option linter.unusedSimpArgs false

section
variable {A2 : Option Addr} {c2 : Nat} {A3 : Option Addr} {c3 : Nat} {A4 : Option Addr} {c4 : Nat} {cl : List S65} {ti : List S73} {cp : List S74}

theorem full4 {e0 e1 e2 e3 y : Int} {i : Nat} (h : (#[e0, e1, e2, e3] : Array Int)[i]? = some y) : (#[Value.int .i64 e0, .int .i64 e1, .int .i64 e2, .int .i64 e3] : Array Value)[i]? = some (.int .i64 y) := by
  match i, h with
  | 0, h => simp at h; subst h; rfl
  | 1, h => simp at h; subst h; rfl
  | 2, h => simp at h; subst h; rfl
  | 3, h => simp at h; subst h; rfl
  | n + 4, h => simp at h

theorem zero4 {e0 e1 e2 e3 : Int} (i : Nat) (hi : i < 4) (h : (#[e0, e1, e2, e3] : Array Int)[i]? = some 0) : (#[Value.int .i64 0, .int .i64 0, .int .i64 0, .int .i64 0] : Array Value)[i]? = (#[Value.int .i64 e0, .int .i64 e1, .int .i64 e2, .int .i64 e3] : Array Value)[i]? := by
  rw [full4 h]
  match i, hi with
  | 0, _ => rfl
  | 1, _ => rfl
  | 2, _ => rfl
  | 3, _ => rfl

set_option maxHeartbeats 1000000 in
theorem choose_in (hr gr : Int) (l B bh n : Nat) (by_ be bc : Nat) (W0 : World) (Post : World → Prop) (H : HouseIn W0 A2 c2 A3 c3 A4 c4 cl ti cp) (hBW : W0.heap.size ≤ B) (h1 : ∀ x ∈ cl, x.f1 = x.f0 ∧ -30 ≤ x.f0 ∧ x.f0 ≤ 30) (hlen : cl.length ≤ 4)
    (hne : by_ ≠ be ∧ bc ≠ be ∧ bh ≠ be) (hge : B ≤ by_ ∧ B ≤ be ∧ B ≤ bc)
    (e0 e1 e2 e3 : Int) (hes : ∀ (i : Nat) (x : S65), cl[i]? = some x → (#[e0, e1, e2, e3] : Array Int)[i]? = some x.f0)
    (HYL : ∀ W, Below B W0 W → At W be #[.int .i64 e0, .int .i64 e1, .int .i64 e2, .int .i64 e3] 103 →
      YieldAt Fence.wide 0 Try.prog l #[.agg #[.int .i64 e0, .int .i64 e1, .int .i64 e2, .int .i64 e3]] W fun e w' => e = .returned (.bool true) ∧ Post w') :
    ∀ (d c : Nat) (es : Array Value) (W : World), c + d = cl.length → Below B W0 W → At W bh #[.int .i64 hr, .int .i64 gr, .slice A2 cl.length c2, .slice A3 ti.length c3, .slice A4 cp.length c4] 46 → At W by_ #[.func (.yield l) #[] #[]] 105 → At W be es 103 → At W bc #[.func (.func 70) #[] #[.pointer (some ⟨bh, 0, none⟩), .pointer (some ⟨by_, 0, none⟩), .pointer (some ⟨be, 0, none⟩), .pointer (some ⟨bc, 0, none⟩)]] 100 →
      es.size = 4 → (∀ i, i < 4 → (i < c ∨ cl.length ≤ i) → es[i]? = (#[.int .i64 e0, .int .i64 e1, .int .i64 e2, .int .i64 e3] : Array Value)[i]?) →
      Calls Try.prog 70 #[.int .i64 (c : Int), .pointer (some ⟨bh, 0, none⟩), .pointer (some ⟨by_, 0, none⟩), .pointer (some ⟨be, 0, none⟩), .pointer (some ⟨bc, 0, none⟩)] W fun e w' => e = .returned (.bool true) ∧ Post w' := by
  intro d
  induction d with
  | zero =>
    intro c es W hcd hB BH BY BE BC hsz hes2
    have hee : es = #[.int .i64 e0, .int .i64 e1, .int .i64 e2, .int .i64 e3] := by
      apply Array.ext
      · rw [hsz]; rfl
      · intro i hi1 hi2
        have := hes2 i (by omega) (by omega)
        rw [Array.getElem?_eq_getElem hi1, Array.getElem?_eq_getElem hi2] at this
        exact Option.some.inj this
    subst hee
    obtain ⟨fn, tmps, assign, body, hy, hR⟩ := HYL W hB BE
    have bh_ := BH.cl
    have by__ := BY.cl
    have be_ := BE.cl
    have hc0 : ((c : Int) == (cl.length : Int)) = true := by simp; omega
    refine (callsIn_wide (n := 1)).1 (callsIn_of_wp Try.func70 rfl trivial ?_)
    simp only [Try.ntmps70, List.size_toArray, List.length_cons, List.length_nil, Nat.reduceAdd, Nat.reduceSub, Array.replicate_succ, Array.replicate_zero, List.push_toArray, List.append_toArray, List.nil_append, List.cons_append]
    gi_wp2
    refine hR.mono ?_
    rintro e w' ⟨rfl, hp⟩
    have HP := Aside0.mk hp
    clear hp hR
    gi_wp2
    go_ret
    exact ⟨rfl, HP.out⟩
  | succ d ih =>
    intro c es W hcd hB BH BY BE BC hsz hes2
    have hcl : c < cl.length := by omega
    have hlt := BY.lt
    have IH := Aside0.mk ih
    have HES := Aside0.mk hes2
    have HY := Aside0.mk HYL
    clear ih hes2 HYL
    have HM := Aside0.mk (h1 _ (g65_mem cl c hcl))
    have HX := Aside0.mk (hes c (g65 cl c) (by unfold g65; rw [List.getD_eq_getElem?_getD, List.getElem?_eq_getElem hcl]; rfl))
    obtain ⟨x, hx⟩ : ∃ x, g65 cl c = x := ⟨_, rfl⟩
    have HXX := Aside0.mk hx
    rw [hx] at HM HX
    clear hx
    have HB := Aside0.mk hB
    have H1 := Aside0.mk h1
    have H2 := Aside0.mk hes
    clear hB h1 hes
    obtain ⟨ad, ee, hx0, hx1⟩ := at65 (H.below (HB.out.mono hBW)).r2 c hcl
    cases ee
    rw [HXX.out] at hx0 hx1
    have hc0 : ((c : Int) == (cl.length : Int)) = false := by simp; omega
    have hcn : c ≠ cl.length := by omega
    have hc4 : (c : Int) < 4 := by omega
    obtain ⟨hlo, hhi⟩ : -30 ≤ x.f0 ∧ x.f0 ≤ 30 := HM.out.2
    have bh_ := BH.cl
    go_enter Try.func70, Try.ntmps70
    go_wp2_with (go_at_call 68; (refine (size_calls _ _ _ HM.out.1).mono ?_); rintro e w1 ⟨rfl, hb⟩; have HB1 := Aside0.mk hb; clear hb bh_; replace BH := BH.below HB1.out; replace BY := BY.below HB1.out; replace BE := BE.below HB1.out; replace BC := BC.below HB1.out; replace hx0 := (HB1.out.cell (World.block_lt_of_cell? _ _ hx0)).trans hx0; replace hx1 := (HB1.out.cell (World.block_lt_of_cell? _ _ hx1)).trans hx1)
    have bh_ := BH.cl
    have hbe : w1.cell? ⟨be, c, none⟩ = some (es[c]'(by omega)) := (BE.cl c).trans (Array.getElem?_eq_getElem (by omega))
    have hbf := BE.fr c
    have hbc := fun v => (World.cell?_setCell_other w1 ⟨be, c, none⟩ ⟨bc, 0, none⟩ v (by intro e; injection e with e1; exact hne.2.1 e1.symm)).trans (BC.cl 0)
    go_loopg [22] 1 (fun kq v22 w' => ∃ j : Nat, v22 = .int .i64 (j : Int) ∧ Aside0 ((j = 0 ∧ kq = 1 ∧ w1 = w') ∨ (j = 1 ∧ kq = 0 ∧ Post w')))
    case atStart => exact ⟨0, rfl, ⟨.inl ⟨rfl, rfl, rfl⟩⟩⟩
    case round =>
      obtain ⟨j, rfl, HJ⟩ := hrel
      rcases HJ.out with ⟨rfl, rfl, rfl⟩ | ⟨rfl, rfl, hP⟩
      · clear HJ
        have hBW2 : B ≤ W.heap.size := by have := hge.1; have := hlt; omega
        have IHc := Aside0.mk (IH.out (c + 1) (es.setIfInBounds c (.int .i64 x.f0)) (w1.setCell ⟨be, c, none⟩ (.int .i64 x.f0)) (by omega) ((below_then HB.out hBW2 HB1.out).setCell (p := ⟨be, c, none⟩) hge.2.1 _)
          (BH.far (p := ⟨be, c, none⟩) hne.2.2 _) (BY.far (p := ⟨be, c, none⟩) hne.1 _) (BE.set c _) (BC.far (p := ⟨be, c, none⟩) hne.2.1 _) (by simpa using hsz) (fun i hi hor => by
            by_cases e : i = c
            · subst e
              rw [Array.getElem?_setIfInBounds_self_of_lt (by omega)]
              exact (full4 HX.out).symm
            · rw [Array.getElem?_setIfInBounds_ne (Ne.symm e)]
              exact HES.out i hi (by omega)))
        rw [show (((c + 1 : Nat)) : Int) = (c : Int) + 1 from by omega] at IHc
        go_wp2_with (go_at_call 70; refine IHc.out.mono ?_; rintro e w3 ⟨rfl, hp⟩; have HP := Aside0.mk hp; clear hp)
        go_roundg 0
        case measure => omega
        case rel => exact ⟨1, rfl, ⟨.inr ⟨rfl, rfl, HP.out⟩⟩⟩
      · have HP := Aside0.mk hP
        clear hP HJ
        go_wp2
        go_ret
        exact ⟨rfl, HP.out⟩

set_option maxHeartbeats 1000000 in
theorem lists1_calls (hr gr : Int) (l bh : Nat) (W0 : World) (Post : World → Prop) (H : HouseIn W0 A2 c2 A3 c3 A4 c4 cl ti cp) (BH : At W0 bh #[.int .i64 hr, .int .i64 gr, .slice A2 cl.length c2, .slice A3 ti.length c3, .slice A4 cp.length c4] 46) (h1 : ∀ x ∈ cl, x.f1 = x.f0 ∧ -30 ≤ x.f0 ∧ x.f0 ≤ 30) (hlen : cl.length ≤ 4)
    (e0 e1 e2 e3 : Int) (hes : ∀ (i : Nat) (x : S65), cl[i]? = some x → (#[e0, e1, e2, e3] : Array Int)[i]? = some x.f0) (hez : ∀ i, i < 4 → cl.length ≤ i → (#[e0, e1, e2, e3] : Array Int)[i]? = some 0)
    (HYL : ∀ W, Below W0.heap.size W0 W → YieldAt Fence.wide 0 Try.prog l #[.agg #[.int .i64 e0, .int .i64 e1, .int .i64 e2, .int .i64 e3]] W fun e w' => e = .returned (.bool true) ∧ Post w') :
    Calls Try.prog 69 #[.func (.yield l) #[] #[], .pointer (some ⟨bh, 0, none⟩)] W0 fun e w' => e = .returned (.tuple #[]) ∧ Post w' := by
  have hbl := BH.lt
  have HY := Aside0.mk HYL
  have H1 := Aside0.mk h1
  have HE := Aside0.mk hes
  have HZ := Aside0.mk hez
  clear HYL h1 hes hez
  go_enter Try.func69, Try.ntmps69
  go_wp2_with (go_at_call 70; refine (choose_in hr gr l W0.heap.size bh 0 W0.heap.size (W0.heap.size + 1) (W0.heap.size + 1 + 1) W0 Post H (Nat.le_refl _) H1.out hlen ⟨by omega, by omega, by omega⟩ ⟨by omega, by omega, by omega⟩ e0 e1 e2 e3 HE.out (fun W hW _ => HY.out W hW) cl.length 0 #[.int .i64 0, .int .i64 0, .int .i64 0, .int .i64 0] _ (by omega) (below_alloc (below_alloc (below_alloc (Below.refl _ _) _) _) _) (((BH.alloc _).alloc _).alloc _) (((At.new _ _ _).alloc _).alloc _) ?c1 ?c2 rfl ?c3).mono ?_; (case c1 => exact At.alloc (by simpa using At.new (W0.alloc _) _ _) _); (case c2 => simpa using At.new ((W0.alloc _).alloc _) _ _); (case c3 => exact fun i hi hor => zero4 i hi (HZ.out i hi (by omega))); rintro e w' ⟨rfl, hp⟩; have HP := Aside0.mk hp; clear hp)
  go_end0
  exact ⟨rfl, HP.out⟩
end

end Go.Proofs.Ytgdbnioodimlfaa.Wk
