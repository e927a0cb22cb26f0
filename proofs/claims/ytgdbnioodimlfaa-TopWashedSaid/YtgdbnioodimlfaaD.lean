/- The contract of asked, where each clock has one number, and the house that truth. Conditions stand in each theorem. -/
import Derived.Test.YtgdbnioodimlfaaSeq
import Derived.Test.YtgdbnioodimlfaaC3
import Derived.Test.YtgdbnioodimlfaaM
import Derived.Sort.CutIn
namespace Go.Proofs.Ytgdbnioodimlfaa.Wk
open Go.RowKit Go.Proofs.YtgdbnioodimlfaaW.PrintWords Go.Proofs.YtgdbnioodimlfaaW.PrintLast Go.Proofs.YtgdbnioodimlfaaW.PrintMore Go.Proofs.Ytgdbnioodimlfaa.PTopWashed Go.Proofs.Ytgdbnioodimlfaa.Sq
attribute [local go_sem] max2_int min2_int max_two min_two max_three min_three max_four min_four
set_option linter.unusedVariables false
set_option linter.unusedSimpArgs false

section
variable {A2 : Option Addr} {c2 : Nat} {A3 : Option Addr} {c3 : Nat} {A4 : Option Addr} {c4 : Nat} {cl : List S65} {ti : List S73} {cp : List S74}

theorem wp_newMap {P : Program} {Q : Exit → Act → World → Prop} {cd : Code} {a : Act} {w : World} {cs cs2 : Array Value} {t t2 : TypeId}
    (h : ∀ w1, w1.heap[w.heap.size]? = some (.map #[] 0) → At w1 (w.heap.size + 1) cs t → At w1 (w.heap.size + 2) cs2 t2 → Aside0 (Below w.heap.size w w1) → Aside0 (w1.heap.size = w.heap.size + 3) → cd.wp P Q a w1) :
    cd.wp P Q a (((w.alloc (.map #[] 0)).alloc (.cells cs t)).alloc (.cells cs2 t2)) := by
  refine h _ ?_ ((At.alloc (by simpa using At.new (w.alloc (.map #[] 0)) cs t) _)) (by simpa using At.new ((w.alloc (.map #[] 0)).alloc (.cells cs t)) cs2 t2) ⟨below_alloc (below_alloc (below_alloc (Below.refl _ _) _) _) _⟩ ⟨by simp⟩
  rw [Below.heap_alloc _ _ _ (by simp; omega), Below.heap_alloc _ _ _ (by simp), World.alloc_heap_new]

theorem call_enter {P : Program} {f : FuncId} {fn : Func} {c : Code} (hf : P.funcs[f]? = some fn) (hname : (fn.name == "runtime.NumGoroutine") = false) (hb : fn.body = some c) (args : Array Value) (w : World) :
    (callFunc f args).run P w = .ok (.enter f args) w := by
  have h1 : fn.name ≠ "runtime.NumGoroutine" := by simpa using hname
  simp [callFunc, hf, h1, hb]
theorem wp_gen {F : Fence} {n : Nat} {P : Program} {cd : Code} {K : Act → World → Prop} {a : Act} {w : World} (h : ∀ K' : Act → World → Prop, (∀ a w, K a w → K' a w) → cd.wpIn F n P (Exit.then K' bot) a w) : cd.wpIn F n P (Exit.then K bot) a w := h K fun _ _ h => h
theorem at_put {w : World} {g l : Nat} {cs : Array Value} {t : TypeId} {r : Loop} (h : At w g cs t) (hl : w.heap[l]? = some (.loop r)) (o : Obj) : At (w.putObj l o) g cs t := by
  refine ⟨(World.putObj_heap_other ?_).trans h.out⟩
  intro e
  subst e
  rw [h.out] at hl
  cases hl
theorem at_putD {w : World} {g l : Nat} {cs : Array Value} {t : TypeId} {d : Option (List Deferred)} (h : At w g cs t) (hl : w.heap[l]? = some (.deferred d)) (o : Obj) : At (w.putObj l o) g cs t := by
  refine ⟨(World.putObj_heap_other ?_).trans h.out⟩
  intro e
  subst e
  rw [h.out] at hl
  cases hl
theorem below_put {b l : Nat} {w w1 : World} (h : Below b w w1) (hl : b ≤ l) (o : Obj) : Below b w (w1.putObj l o) :=
  ⟨h.os, h.tape, h.output, by have := h.size; simp [World.putObj]; omega, fun k hk => (World.putObj_heap_other (by omega)).trans (h.block k hk)⟩
def vN : Value → Nat
  | .int _ x => x.toNat
  | _ => 0
/-- What a round keeps: the loop's block, the deferred block, the map, and all that lay. -/
structure Kp (w0 : World) (l K m : Nat) (L : Obj) (W : World) : Prop where
  lp : W.heap[l]? = some L
  kk : W.heap[K]? = some (.deferred (some []))
  mp : ∃ es c, W.heap[m]? = some (.map es c) ∧ mapOk es
  bl : Below w0.heap.size w0 W

section
variable {w0 W W' : World} {l K m g : Nat} {r : Loop} {cs : Array Value} {t : TypeId}
theorem Kp.below {L : Obj} (h : Kp w0 l K m L W) (hb : Below W.heap.size W W') : Kp w0 l K m L W' := by
  obtain ⟨es, c, h1, h2⟩ := h.mp
  exact ⟨(hb.block _ (Array.getElem?_eq_some_iff.1 h.lp).1).trans h.lp, (hb.block _ (Array.getElem?_eq_some_iff.1 h.kk).1).trans h.kk, ⟨es, c, (hb.block _ (Array.getElem?_eq_some_iff.1 h1).1).trans h1, h2⟩, below_step h.bl hb⟩
theorem Kp.set (h : Kp w0 l K m (.loop r) W) (hA : At W g cs t) (hg : w0.heap.size ≤ g) (i : Nat) (u : Value) : Kp w0 l K m (.loop r) (W.setCell ⟨g, i, none⟩ u) := by
  obtain ⟨es, c, h1, h2⟩ := h.mp
  have e := hA.out
  have n1 : l ≠ g := by rintro rfl; rw [h.lp] at e; cases e
  have n2 : K ≠ g := by rintro rfl; rw [h.kk] at e; cases e
  have n3 : m ≠ g := by rintro rfl; rw [h1] at e; cases e
  exact ⟨(Below.heap_setCell _ _ _ _ n1).trans h.lp, (Below.heap_setCell _ _ _ _ n2).trans h.kk, ⟨es, c, (Below.heap_setCell _ _ _ _ n3).trans h1, h2⟩, h.bl.setCell (p := ⟨g, i, none⟩) hg _⟩
theorem blk_setBlock (W : World) (m k : Nat) (o : Obj) (h : k ≠ m) : (Go.ChangeMaps.setBlock W m o).heap[k]? = W.heap[k]? := by
  simp [Go.ChangeMaps.setBlock, Array.getElem?_setIfInBounds_ne (Ne.symm h)]
theorem Kp.map {es es1 : Array MapEntry} {c c1 : Nat} (h : Kp w0 l K m (.loop r) W) (h1 : W.heap[m]? = some (.map es c)) (hok : mapOk es1) (hm : w0.heap.size ≤ m) : Kp w0 l K m (.loop r) (Go.ChangeMaps.setBlock W m (.map es1 c1)) := by
  have n1 : l ≠ m := by rintro rfl; rw [h.lp] at h1; cases h1
  have n2 : K ≠ m := by rintro rfl; rw [h.kk] at h1; cases h1
  have hlt := (Array.getElem?_eq_some_iff.1 h1).1
  exact ⟨(blk_setBlock _ _ _ _ n1).trans h.lp, (blk_setBlock _ _ _ _ n2).trans h.kk, ⟨es1, c1, by simp [Go.ChangeMaps.setBlock, hlt], hok⟩, ⟨h.bl.os, h.bl.tape, h.bl.output, by simpa [Go.ChangeMaps.setBlock] using h.bl.size, fun k hk => (blk_setBlock _ _ _ _ (by omega)).trans (h.bl.block k hk)⟩⟩
theorem at_map {es : Array MapEntry} {c : Nat} (hA : At W g cs t) (h1 : W.heap[m]? = some (.map es c)) (o : Obj) : At (Go.ChangeMaps.setBlock W m o) g cs t := by
  refine ⟨(blk_setBlock _ _ _ _ ?_).trans hA.out⟩
  rintro rfl
  have := hA.out
  rw [h1] at this
  cases this
end
theorem info103 : ∃ i, Try.prog.info? 103 = some i ∧ i.zero = some (.agg #[.int .i64 0, .int .i64 0, .int .i64 0, .int .i64 0]) ∧ i.size = 4 ∧ i.bytes = 32 := by
  have h : (Try.prog.info? 103).map (fun i => (i.zero, i.size, i.bytes)) = some (some (.agg #[.int .i64 0, .int .i64 0, .int .i64 0, .int .i64 0]), 4, 32) := by kernel_rfl
  cases e : Try.prog.info? 103 with
  | none => rw [e] at h; cases h
  | some i =>
    rw [e] at h
    simp at h
    exact ⟨i, rfl, h.1, h.2.1, h.2.2⟩
theorem append_nil {P : Program} {w : World} {ops : Array Oper} {rest : List Oper} {o : Oper} {a : Act} {Q : Exit → Act → World → Prop} (hgd : o.guard = none) (s x : Operand) (t : TypeId)
    (ho : o.op = .call { callee := .builtin .append, args := #[s, x], argTypes := #[t, t] })
    (e : TypeId) (i : TypeInfo) (z : Value) (size bytes : Nat) (ht : P.underlying t = some (.slice e)) (hi : P.info? e = some i) (hz : i.zero = some z)
    (hsize : i.size = size) (hby : i.bytes = bytes) (hzs : z.cells.size = size) (hsz : 0 < size) (hs : a.eval s = .slice none 0 0)
    (g c : Nat) (news : Array Value) (t2 : TypeId) (hx : a.eval x = .slice (some ⟨g, 0, none⟩) 1 c) (hA : At w g news t2) (hl : news.size = size) (h1 : ∀ u ∈ news, u.oneCell' = true) (hbytes : bytes ≤ 140737488355328)
    (h : ∀ g' cap cur w', At w' g' cur e → (∀ i, i < size → cur[i]? = news[i]?) → w.heap.size ≤ g' → Below w.heap.size w w' → wpList P ops Q rest (a.put o.dst (.slice (some ⟨g', 0, none⟩) 1 cap)) w') : wpList P ops Q (o :: rest) a w := by
  refine wpList_append_own w hgd s x t ho w.heap.size e i z size bytes ht hi hz hsize hby hzs hsz _ 0 [] hs (World.ownsRow_nil _ _ _ _) ⟨g, 0, none⟩ 1 c news.toList hx (by simp [hl]) (fun j u hj => ?_) (fun u hu => h1 u (Array.mem_toList_iff.1 hu)) (by decide) (by omega) (Nat.le_refl _) ?_
  · rw [add_plain, hA.cl]
    simpa using hj
  · intro v' w' hown hgrow hnil
    obtain ⟨hlen, ⟨_, h0⟩ | ⟨g', cap, cur, rfl, hg', hc, hn, hcap, hcs, htk⟩⟩ := hown
    · simp at h0
    · refine h g' cap cur w' ⟨hc⟩ (fun i hi => ?_) hg' ⟨hgrow.os, hgrow.tape, hgrow.output, hgrow.size, fun k hk => hgrow.block k hk (by simp [Value.ownBlock])⟩
      have : cur.toList[i]? = news.toList[i]? := by
        have h3 := congrArg (·[i]?) htk
        simp only [List.nil_append] at h3
        rw [← h3, List.getElem?_take_of_lt (by omega)]
      simpa using this

set_option maxHeartbeats 1000000 in
theorem asked_calls (hr gr e0 e1 e2 e3 : Int) (w : World) (H : HouseIn w A2 c2 A3 c3 A4 c4 cl ti cp) (O : Okh hr gr cl ti cp) (hS : Small e0 e1 e2 e3)
    (hes : ∀ (i : Nat) (x : S65), cl[i]? = some x → (#[e0, e1, e2, e3] : Array Int)[i]? = some x.f0) (hez : ∀ i, i < 4 → cl.length ≤ i → (#[e0, e1, e2, e3] : Array Int)[i]? = some 0)
    (R : ∀ i j : Nat, i < j → j < cp.length → tm e0 e1 e2 e3 (g74 cp i) ≤ tm e0 e1 e2 e3 (g74 cp j)) :
    Calls Try.prog 32 #[.agg #[.int .i64 hr, .int .i64 gr, .slice A2 cl.length c2, .slice A3 ti.length c3, .slice A4 cp.length c4], .int .i64 0] w fun e w' => ∃ b, e = .returned (.tuple #[.pointer (some ⟨b, 0, none⟩), .int .i64 0]) ∧ WorkIn w' b [.int .i64 hr, .int .i64 gr, .slice A2 cl.length c2, .slice A3 ti.length c3, .slice A4 cp.length c4] e0 e1 e2 e3 ∧ Below w.heap.size w w' := by
  have HI := Aside0.mk H
  have HO := Aside0.mk O
  have HR := Aside0.mk R
  have HS := Aside0.mk hS
  have HE := Aside0.mk hes
  have HZ := Aside0.mk hez
  clear H O R hS hes hez
  refine (callsIn_wide (n := 1)).1 (callsIn_of_wp_marks Try.func32 rfl trivial (wpIn_wide.2 ?_) rfl)
  simp only [Try.ntmps32, List.size_toArray, List.length_cons, List.length_nil, Nat.reduceAdd, Nat.reduceSub, Array.replicate_succ, Array.replicate_zero, List.push_toArray, List.append_toArray, List.nil_append, List.cons_append]
  have hmm := @run_makeMap Try.prog
  go_upto_region 7 with (first
    | (go_at_call 49; refine (CheckHouse_calls hr gr _ (HI.out.below (below_alloc (Below.refl _ _) _)) HO.out).mono ?_; rintro e w2 ⟨rfl, hb⟩; obtain ⟨B1, HB⟩ := one_new hb; clear hb; have b1 := B1.cl; have hlt := B1.lt))
  refine wp_newMap fun w3 M4 B4 B5 HB4 HZ4 => ?_
  replace B1 := B1.below HB4.out
  replace HB := Aside0.mk (below_step HB.out HB4.out)
  have HM4 := Aside0.mk M4
  clear b1 M4
  have b1 := B1.cl
  go_wp2_with (go_at_call 50; refine (lists_calls (A2 := A2) (c2 := c2) (A3 := A3) (c3 := c3) (A4 := A4) (c4 := c4) (cl := cl) (ti := ti) (cp := cp) hr gr _).mono ?_; rintro e w5 ⟨rfl, B6, hb⟩; replace B1 := B1.below hb; replace B4 := B4.below hb; replace B5 := B5.below hb; have M4 := (hb.block _ (Array.getElem?_eq_some_iff.1 HM4.out).1).trans HM4.out; replace HB := Aside0.mk (below_step HB.out hb); clear HM4; have HM4 := Aside0.mk M4; clear M4 b1)
  obtain ⟨m, hm⟩ : ∃ m, m = w2.heap.size := ⟨_, rfl⟩
  refine wpIn_wide.1 (rangeOnce (.agg #[.int .i64 e0, .int .i64 e1, .int .i64 e2, .int .i64 e3]) (by rfl) (fun args w => call_enter Try.func69 (by kernel_rfl) rfl args w) rfl
    (fun W => ∃ (tb cap : Nat) (cs : Array Value), At W (w2.heap.size + 1) #[.int .i64 hr, .int .i64 gr, .slice A2 cl.length c2, .slice A3 ti.length c3, .slice A4 cp.length c4, .slice (some ⟨tb, 0, none⟩) 1 cap, .map (some w2.heap.size)] 115 ∧ At W (w2.heap.size + 2) #[.pointer (some ⟨w2.heap.size + 1, 0, none⟩)] 91 ∧ At W tb cs 103 ∧ cs[0]? = some (.int .i64 e0) ∧ cs[1]? = some (.int .i64 e1) ∧ cs[2]? = some (.int .i64 e2) ∧ cs[3]? = some (.int .i64 e3) ∧ Below w.heap.size w W)
    ?hI ?hseq ?hround ?hdone)
  case hI =>
    rintro W r r' ⟨tb, cap, cs, h1, h2, h3, h4, h5, h6, h7, h8⟩ hl
    exact ⟨tb, cap, cs, at_put h1 hl _, at_put h2 hl _, at_put h3 hl _, h4, h5, h6, h7, below_put h8 (by have := HB.out.size; omega) _⟩
  case hseq =>
    intro Post W1 hb hy
    refine (lists1_calls hr gr _ w3.heap.size W1 Post ((HI.out.below HB.out).below hb) (B6.below hb) HO.out.cl1 HO.out.n2 e0 e1 e2 e3 HE.out HZ.out hy).mono ?_
    rintro e w' ⟨rfl, hp⟩
    exact ⟨⟨_, rfl⟩, hp⟩
  case hround =>
    intro rec W hbW hK hL
    clear hm
    replace B1 := B1.below hbW
    replace B4 := B4.below hbW
    replace B5 := B5.below hbW
    have HM5 := Aside0.mk ((hbW.block _ (Array.getElem?_eq_some_iff.1 HM4.out).1).trans HM4.out)
    have HB5 := Aside0.mk (below_step HB.out hbW)
    have HW := Aside0.mk hbW
    have HK := Aside0.mk hK
    have HL := Aside0.mk hL
    clear hK hL hbW HM4
    simp only [List.setIfInBounds_toArray, List.set_cons_succ, List.set_cons_zero]
    refine wp_gen fun K0 hK0 => ?_
    refine roundRegion bot_lets (by kernel_rfl) ?_
    go_wp2
    refine ⟨(Below.heap_alloc _ _ _ (Array.getElem?_eq_some_iff.1 HL.out).1).trans HL.out, ?_⟩
    have hl2 : (W.alloc (.cells #[.int .i64 e0, .int .i64 e1, .int .i64 e2, .int .i64 e3] 103)).heap[w5.heap.size + 1]? = some (.loop (rec .ready)) := (Below.heap_alloc _ _ _ (Array.getElem?_eq_some_iff.1 HL.out).1).trans HL.out
    have B1' := at_put (B1.alloc (.cells #[.int .i64 e0, .int .i64 e1, .int .i64 e2, .int .i64 e3] 103)) hl2 (.loop (rec .busy))
    have B4' := at_put (B4.alloc (.cells #[.int .i64 e0, .int .i64 e1, .int .i64 e2, .int .i64 e3] 103)) hl2 (.loop (rec .busy))
    have B5' := at_put (B5.alloc (.cells #[.int .i64 e0, .int .i64 e1, .int .i64 e2, .int .i64 e3] 103)) hl2 (.loop (rec .busy))
    have B8 := at_put (At.new W #[.int .i64 e0, .int .i64 e1, .int .i64 e2, .int .i64 e3] 103) hl2 (.loop (rec .busy))
    have hlK := (Array.getElem?_eq_some_iff.1 HL.out).1
    have hs5 := HW.out.size
    have HKp : Aside0 (Kp w (w5.heap.size + 1) w5.heap.size w2.heap.size (.loop (rec .busy)) ((W.alloc (.cells #[.int .i64 e0, .int .i64 e1, .int .i64 e2, .int .i64 e3] 103)).putObj (w5.heap.size + 1) (.loop (rec .busy)))) := by
      refine ⟨⟨World.putObj_heap_same (by simp; omega), ?_, ⟨#[], 0, ?_, fun x hx => by simp at hx⟩, below_put (below_alloc HB5.out _) (by have := HB.out.size; omega) _⟩⟩
      · rw [World.putObj_heap_other (by omega), Below.heap_alloc _ _ _ (by omega)]; exact HK.out
      · have := (Array.getElem?_eq_some_iff.1 HM5.out).1
        rw [World.putObj_heap_other (by intro e; have h1 := HL.out; rw [← e, HM5.out] at h1; cases h1), Below.heap_alloc _ _ _ (by omega)]; exact HM5.out
    have HZ8 : Aside0 (W.heap.size ≠ w2.heap.size + 1) := ⟨by have := B4.lt; omega⟩
    clear hl2 B1 B4 B5 HM5 HB5 HK HL
    generalize (W.alloc (.cells #[.int .i64 e0, .int .i64 e1, .int .i64 e2, .int .i64 e3] 103)).putObj (w5.heap.size + 1) (.loop (rec .busy)) = W2 at B1' B4' B5' B8 HKp ⊢
    refine wp_gen fun K1 hK1 => ?_
    iterate 3 gi_step
    refine roundDraw [(0, 0), (1, 0), (2, 1), (3, 0), (4, 0), (5, 0), (6, 0), (7, 0), (8, 0), (9, 0), (10, 0), (11, 0), (12, 0), (13, 0), (14, 0), (15, 0), (16, 0), (17, 0), (18, 0), (19, 0), (20, 0), (21, 0), (22, 0), (23, 0), (24, 0), (25, 0), (26, 0), (27, 0)] (fun w' => Below W2.heap.size W2 w') (by rintro ⟨a, w, h⟩; exact h) (by kernel_rfl) (by kernel_rfl) rfl (by kernel_rfl) (fun _ _ _ _ _ h => h) (Below.refl _ _).drew ?_
    repeat (first | (refine seq_off (a' := ?_) rfl rfl ?_ ?_; rotate_left; (· simp only [List.getElem_toArray, List.getElem_cons_succ, List.getElem_cons_zero, Act.put, List.setIfInBounds_toArray, List.set_cons_zero, List.set_cons_succ, i64_w, i32_w]; rfl)) | (refine seq_read (v := ?_) (a' := ?_) rfl rfl (fun w' hS => ?_) ?_ ?_; rotate_left 2; (· have b1 := (B1'.below hS).cl; have b4 := (B4'.below hS).cl; have b5 := (B5'.below hS).cl; have b8 := (B8.below hS).cl; go_simp; try with_reducible rfl); (· simp only [List.getElem_toArray, List.getElem_cons_succ, List.getElem_cons_zero, Act.put, List.setIfInBounds_toArray, List.set_cons_zero, List.set_cons_succ, i64_w, i32_w]; rfl)))
    refine seq_do rfl (fun hS => ?_)
    simp only [List.getElem_toArray, List.getElem_cons_succ, List.getElem_cons_zero]
    go_wp2_with (go_at_call 51; refine (rising_calls hr gr e0 e1 e2 e3 _ ((HI.out.below HKp.out.bl).below hS) HO.out HS.out HR.out).mono ?_; rintro e w7 ⟨rfl, hb⟩; have hS7 := below_step hS hb)
    refine ⟨hS7, ?_⟩
    repeat (first | (refine seq_off (a' := ?_) rfl rfl ?_ ?_; rotate_left; (· simp only [List.getElem_toArray, List.getElem_cons_succ, List.getElem_cons_zero, Act.put, List.setIfInBounds_toArray, List.set_cons_zero, List.set_cons_succ, i64_w, i32_w]; rfl)) | (refine seq_read (v := ?_) (a' := ?_) rfl rfl (fun w' hS => ?_) ?_ ?_; rotate_left 2; (· have b1 := (B1'.below hS).cl; have b4 := (B4'.below hS).cl; have b5 := (B5'.below hS).cl; have b8 := (B8.below hS).cl; go_simp; try with_reducible rfl); (· simp only [List.getElem_toArray, List.getElem_cons_succ, List.getElem_cons_zero, Act.put, List.setIfInBounds_toArray, List.set_cons_zero, List.set_cons_succ, i64_w, i32_w]; rfl)))
    refine seq_done ?_
    replace B1 := B1'.below hS7
    replace B4 := B4'.below hS7
    replace B5 := B5'.below hS7
    replace B8 := B8.below hS7
    replace HKp := Aside0.mk (HKp.out.below hS7)
    clear B1' B4' B5' hb hS hS7
    gi_wp2
    refine roundDraw [(0, 0), (1, 0), (2, 0), (3, 0), (4, 0), (5, 0), (6, 1), (7, 1), (8, 0), (9, 0), (10, 2)] (fun w' => Below w7.heap.size w7 w') (by rintro ⟨a, w, h⟩; exact h) (by kernel_rfl) (by kernel_rfl) rfl (by kernel_rfl) (fun _ _ _ _ _ h => h) (Below.refl _ _).drew ?_
    repeat (first | (refine seq_off (a' := ?_) rfl rfl ?_ ?_; rotate_left; (· simp only [List.getElem_toArray, List.getElem_cons_succ, List.getElem_cons_zero, Act.put, List.setIfInBounds_toArray, List.set_cons_zero, List.set_cons_succ, i64_w, i32_w]; rfl)) | (refine seq_read (v := ?_) (a' := ?_) rfl rfl (fun w' hS => ?_) ?_ ?_; rotate_left 2; (· have b1 := (B1.below hS).cl; have b4 := (B4.below hS).cl; have b5 := (B5.below hS).cl; have b8 := (B8.below hS).cl; go_simp; try with_reducible rfl); (· simp only [List.getElem_toArray, List.getElem_cons_succ, List.getElem_cons_zero, Act.put, List.setIfInBounds_toArray, List.set_cons_zero, List.set_cons_succ, i64_w, i32_w]; rfl)))
    refine seq_do rfl (fun hS => ?_)
    simp only [List.getElem_toArray, List.getElem_cons_succ, List.getElem_cons_zero]
    go_wp2
    refine ⟨below_alloc hS _, ?_⟩
    refine seq_do rfl (fun hS2 => ?_)
    simp only [List.getElem_toArray, List.getElem_cons_succ, List.getElem_cons_zero]
    obtain ⟨i103, hi1, hi2, hi3, hi4⟩ := info103
    refine append_nil rfl (.tmp 57) (.tmp 59) 113 rfl 103 i103 _ 4 32 Try.underlying113 hi1 hi2 hi3 hi4 rfl (by omega) rfl w7.heap.size 1 #[.int .i64 e0, .int .i64 e1, .int .i64 e2, .int .i64 e3] 103 rfl ((At.new w7 _ _).drew) rfl (by simp [Value.oneCell']) (by omega) ?_
    intro tb cap cur w8 BT hcur hg' hb8
    have hS8 := below_step hS2 hb8
    refine ⟨hS8, ?_⟩
    repeat (first | (refine seq_off (a' := ?_) rfl rfl ?_ ?_; rotate_left; (· simp only [List.getElem_toArray, List.getElem_cons_succ, List.getElem_cons_zero, Act.put, List.setIfInBounds_toArray, List.set_cons_zero, List.set_cons_succ, i64_w, i32_w]; rfl)) | (refine seq_read (v := ?_) (a' := ?_) rfl rfl (fun w' hS => ?_) ?_ ?_; rotate_left 2; (· have b1 := (B1.below hS).cl; have b4 := (B4.below hS).cl; have b5 := (B5.below hS).cl; have b8 := (B8.below hS).cl; go_simp; try with_reducible rfl); (· simp only [List.getElem_toArray, List.getElem_cons_succ, List.getElem_cons_zero, Act.put, List.setIfInBounds_toArray, List.set_cons_zero, List.set_cons_succ, i64_w, i32_w]; rfl)))
    refine seq_last rfl ?_
    simp only [List.getElem_toArray, List.getElem_cons_succ, List.getElem_cons_zero]
    replace B1 := B1.below hS8
    replace B4 := B4.below hS8
    replace B5 := B5.below hS8
    replace B8 := B8.below hS8
    replace HKp := Aside0.mk (HKp.out.below hS8)
    have hwb : w.heap.size ≤ w2.heap.size + 1 := by omega
    have HT := Aside0.mk (show tb ≠ w2.heap.size + 1 ∧ tb ≠ w2.heap.size + 2 from by
      have h1 := B4.out
      have h2 := B5.out
      refine ⟨?_, ?_⟩ <;> rintro rfl
      · rw [BT.out] at h1; cases h1
      · rw [BT.out] at h2; cases h2)
    have HN := Aside0.mk (show W.heap.size ≠ w2.heap.size + 1 from by
      have h1 := B4.out
      intro e
      rw [← e, B8.out] at h1; cases h1)
    have HN1 := Aside0.mk (show w.heap.size ≠ w2.heap.size + 1 from by omega)
    have HU := Aside0.mk hcur
    clear hcur hS8 hS2 hS hb8 hi1 hi2 hi3 hi4 i103
    have b4 := B4.cl
    have f4 := B4.fr 5
    go_wp2
    refine seq_done ?_
    have HB4 := Aside0.mk (show At (w8.setCell ⟨w2.heap.size + 1, 5, none⟩ (.slice (some ⟨tb, 0, none⟩) 1 cap)) (w2.heap.size + 1) #[.int .i64 hr, .int .i64 gr, .slice A2 cl.length c2, .slice A3 ti.length c3, .slice A4 cp.length c4, .slice (some ⟨tb, 0, none⟩) 1 cap, .map (some w2.heap.size)] 115 from by have := B4.set 5 (.slice (some ⟨tb, 0, none⟩) 1 cap); simpa using this)
    have HB5 := Aside0.mk (B5.far (p := ⟨w2.heap.size + 1, 5, none⟩) (by simp) (.slice (some ⟨tb, 0, none⟩) 1 cap))
    have HB8 := Aside0.mk (B8.far (p := ⟨w2.heap.size + 1, 5, none⟩) HN.out (.slice (some ⟨tb, 0, none⟩) 1 cap))
    have HBT := Aside0.mk (BT.far (p := ⟨w2.heap.size + 1, 5, none⟩) HT.out.1 (.slice (some ⟨tb, 0, none⟩) 1 cap))
    have HB1 := Aside0.mk (B1.far (p := ⟨w2.heap.size + 1, 5, none⟩) HN1.out (.slice (some ⟨tb, 0, none⟩) 1 cap))
    replace HKp := Aside0.mk (HKp.out.set B4 hwb 5 (.slice (some ⟨tb, 0, none⟩) 1 cap))
    clear b4 f4 B1 B4 B5 B8 BT
    generalize w8.setCell ⟨w2.heap.size + 1, 5, none⟩ (.slice (some ⟨tb, 0, none⟩) 1 cap) = W9 at HB4 HB5 HB8 HBT HB1 HKp ⊢
    have b1 := HB1.out.cl
    iterate 3 gi_step
    refine roundRegion (by rintro ⟨a, w, h⟩; exact h) (by kernel_rfl) ?_
    go_wp2
    clear b1
    gi_step
    gi_loopw [66] (fun v66 wr => ∃ j : Nat, v66 = .int .i64 (j : Int) ∧ Aside0 (j ≤ cl.length) ∧ Aside0 (At wr (w2.heap.size + 1) #[.int .i64 hr, .int .i64 gr, .slice A2 cl.length c2, .slice A3 ti.length c3, .slice A4 cp.length c4, .slice (some ⟨tb, 0, none⟩) 1 cap, .map (some w2.heap.size)] 115) ∧ Aside0 (At wr (w2.heap.size + 2) #[.pointer (some ⟨w2.heap.size + 1, 0, none⟩)] 91) ∧ Aside0 (At wr W.heap.size #[.int .i64 e0, .int .i64 e1, .int .i64 e2, .int .i64 e3] 103) ∧ Aside0 (At wr tb cur 103) ∧ Aside0 (Kp w (w5.heap.size + 1) w5.heap.size w2.heap.size (.loop (rec .busy)) wr)) (fun v66 _ => cl.length - vN v66)
    case atStart => exact ⟨0, rfl, ⟨by omega⟩, HB4, HB5, HB8, HBT, HKp⟩
    case round =>
      clear HB4 HB5 HB8 HBT HKp HB1
      obtain ⟨j, rfl, HJ, HB4, HB5, HB8, HBT, HKp⟩ := hrel
      have hn4 := HO.out.n2
      by_cases hlt2 : j < cl.length
      · obtain ⟨y, hy⟩ : ∃ y : Int, (#[.int .i64 e0, .int .i64 e1, .int .i64 e2, .int .i64 e3] : Array Value)[j]? = some (.int .i64 y) := by
          match j, hlt2 with
          | 0, _ => exact ⟨_, rfl⟩
          | 1, _ => exact ⟨_, rfl⟩
          | 2, _ => exact ⟨_, rfl⟩
          | 3, _ => exact ⟨_, rfl⟩
          | k + 4, h => omega
        have HY := Aside0.mk hy
        clear hy
        obtain ⟨es, c, hm0, hok⟩ := HKp.out.mp
        obtain ⟨v, hl⟩ := lookV_of es j y hok
        obtain ⟨st, es1, c1, hrun, hok1, hl1, hbn⟩ := entry_run (w := wr.drew) hm0 hok hl
        have hlt1 : w2.heap.size < wr.heap.size := (Array.getElem?_eq_some_iff.1 hm0).1
        have hm1 : (Go.ChangeMaps.setBlock wr.drew w2.heap.size (.map es1 c1)).heap[w2.heap.size]? = some (.map es1 c1) := by simp [Go.ChangeMaps.setBlock, hlt1]
        obtain ⟨es2, hrun2, hok2⟩ := store_run (x := wrap64 (v + 1)) hm1 hok1 hbn
        have HR1 := Aside0.mk hrun
        have HR2 := Aside0.mk hrun2
        have HM0 := Aside0.mk hm0
        have HM1 := Aside0.mk hm1
        have HL0 := Aside0.mk hl
        have HL1 := Aside0.mk hl1
        have HK2 := Aside0.mk hok2
        have HK1 := Aside0.mk hok1
        clear hrun hrun2 hm0 hm1 hl hl1 hok2 hok1 hbn hlt1
        have hj4 : (j : Int) < 4 := by omega
        iterate 2 gi_step
        refine roundRegion (by rintro ⟨a, w, h⟩; exact h) (by kernel_rfl) ?_
        go_wp2
        repeat (gi_not_at_region 13; gi_step)
        refine roundRegion (by rintro ⟨a, w, h⟩; exact h) (by kernel_rfl) ?_
        go_wp2
        repeat (gi_not_at_region 14; gi_step)
        refine roundDraw [(0, 0), (1, 0), (2, 0), (3, 0), (4, 0), (5, 0), (6, 0), (7, 0), (8, 0), (9, 0), (10, 0), (11, 1), (12, 0), (13, 2)] (fun w' => At w' (w2.heap.size + 1) #[.int .i64 hr, .int .i64 gr, .slice A2 cl.length c2, .slice A3 ti.length c3, .slice A4 cp.length c4, .slice (some ⟨tb, 0, none⟩) 1 cap, .map (some w2.heap.size)] 115 ∧ At w' (w2.heap.size + 2) #[.pointer (some ⟨w2.heap.size + 1, 0, none⟩)] 91 ∧ At w' W.heap.size #[.int .i64 e0, .int .i64 e1, .int .i64 e2, .int .i64 e3] 103 ∧ ∃ es c, w'.heap[w2.heap.size]? = some (.map es c) ∧ lookV es j y v) (by rintro ⟨a, w, h⟩; exact h) (by kernel_rfl) (by kernel_rfl) rfl (by kernel_rfl) (fun _ _ _ _ _ h => h) ⟨HB4.out.drew, HB5.out.drew, HB8.out.drew, es, c, HM0.out, HL0.out⟩ ?_
        repeat (first | (refine seq_off (a' := ?_) rfl rfl ?_ ?_; rotate_left; (· simp only [List.getElem_toArray, List.getElem_cons_succ, List.getElem_cons_zero, Act.put, List.setIfInBounds_toArray, List.set_cons_zero, List.set_cons_succ, i64_w, i32_w]; rfl)) | (refine seq_read (v := ?_) (a' := ?_) rfl rfl (fun w' hS => ?_) ?_ ?_; rotate_left 2; (· obtain ⟨S4, S5, S8, es_, c_, hm_, hl_⟩ := hS; have b4 := S4.cl; have b5 := S5.cl; have b8 : w'.cell? ⟨W.heap.size, j, none⟩ = _ := (S8.cl j).trans HY.out; have hk := look_run hm_ hl_; go_simp; try with_reducible rfl); (· simp only [List.getElem_toArray, List.getElem_cons_succ, List.getElem_cons_zero, Act.put, List.setIfInBounds_toArray, List.set_cons_zero, List.set_cons_succ, i64_w, i32_w]; rfl)))
        refine seq_do rfl (fun hS => ?_)
        simp only [List.getElem_toArray, List.getElem_cons_succ, List.getElem_cons_zero]
        clear hS
        have hr1 := HR1.out
        go_wp2
        clear hr1
        refine ⟨⟨at_map HB4.out.drew HM0.out _, at_map HB5.out.drew HM0.out _, at_map HB8.out.drew HM0.out _, es1, c1, HM1.out, HL1.out⟩, ?_⟩
        repeat (first | (refine seq_off (a' := ?_) rfl rfl ?_ ?_; rotate_left; (· simp only [List.getElem_toArray, List.getElem_cons_succ, List.getElem_cons_zero, Act.put, List.setIfInBounds_toArray, List.set_cons_zero, List.set_cons_succ, i64_w, i32_w]; rfl)) | (refine seq_read (v := ?_) (a' := ?_) rfl rfl (fun w' hS => ?_) ?_ ?_; rotate_left 2; (· obtain ⟨S4, S5, S8, es_, c_, hm_, hl_⟩ := hS; have b4 := S4.cl; have b5 := S5.cl; have b8 : w'.cell? ⟨W.heap.size, j, none⟩ = _ := (S8.cl j).trans HY.out; have hk := look_run hm_ hl_; go_simp; try with_reducible rfl); (· simp only [List.getElem_toArray, List.getElem_cons_succ, List.getElem_cons_zero, Act.put, List.setIfInBounds_toArray, List.set_cons_zero, List.set_cons_succ, i64_w, i32_w]; rfl)))
        refine seq_last rfl ?_
        simp only [List.getElem_toArray, List.getElem_cons_succ, List.getElem_cons_zero]
        have hr2 := HR2.out
        go_wp2
        clear hr2
        refine seq_done ?_
        replace HB4 := Aside0.mk (at_map (at_map HB4.out.drew HM0.out _) HM1.out (.map es2 c1))
        replace HB5 := Aside0.mk (at_map (at_map HB5.out.drew HM0.out _) HM1.out (.map es2 c1))
        replace HB8 := Aside0.mk (at_map (at_map HB8.out.drew HM0.out _) HM1.out (.map es2 c1))
        replace HBT := Aside0.mk (at_map (at_map HBT.out.drew HM0.out _) HM1.out (.map es2 c1))
        replace HKp := Aside0.mk (((HKp.out.below (Below.refl _ _).drew).map HM0.out HK1.out (by omega) (c1 := c1)).map HM1.out HK2.out (by omega) (c1 := c1))
        clear HM0 HM1 HL0 HL1 HR1 HR2
        generalize ChangeMaps.setBlock (ChangeMaps.setBlock wr.drew w2.heap.size (Obj.map es1 c1)) w2.heap.size (Obj.map es2 c1) = W10 at HB4 HB5 HB8 HBT HKp ⊢
        repeat (gi_not_at_region 15; gi_step)
        refine roundRegion (by rintro ⟨a, w, h⟩; exact h) (by kernel_rfl) ?_
        go_wp2
        go_roundw
        case measure =>
          simp only [vN]
          omega
        case rel => exact ⟨j + 1, by go_num, ⟨by omega⟩, HB4, HB5, HB8, HBT, HKp⟩
      · iterate 2 gi_step
        refine roundRegion (by rintro ⟨a, w, h⟩; exact h) (by kernel_rfl) ?_
        go_wp2
        gi_wp2
        refine ⟨HKp.out.lp, HKp.out.kk, tb, cap, cur, HB4.out, HB5.out, HBT.out, HU.out 0 (by omega), HU.out 1 (by omega), HU.out 2 (by omega), HU.out 3 (by omega), HKp.out.bl⟩
  case hdone =>
    intro W hI hK
    obtain ⟨tb, cap, cs, h1, h2, h3, h4, h5, h6, h7, h8⟩ := hI
    have b4 := h1.cl
    have b5 := h2.cl
    go_wp2
    refine ⟨by simp, .inl ⟨_, _, rfl, run_takeDeferred hK, ?_⟩⟩
    refine ⟨.tuple #[.pointer (some ⟨w2.heap.size + 1, 0, none⟩), .int .i64 0], by simp [results, Try.f32, go_sem], w2.heap.size + 1, rfl, ⟨tb, cap, .map (some w2.heap.size), cs, at_putD h1 hK _, at_putD h3 hK _, h4, h5, h6, h7⟩, below_put h8 HB.out.size _⟩
end

end Go.Proofs.Ytgdbnioodimlfaa.Wk
