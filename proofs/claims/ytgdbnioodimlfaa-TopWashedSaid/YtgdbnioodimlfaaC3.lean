/- The contract of asked, where each clock has one number, and the house that truth. Conditions stand in each theorem. -/
import Derived.Test.YtgdbnioodimlfaaSeq
import Derived.Test.YtgdbnioodimlfaaC2
namespace Go.Proofs.Ytgdbnioodimlfaa.Wk
open Go.RowKit Go.Proofs.YtgdbnioodimlfaaW.PrintWords Go.Proofs.YtgdbnioodimlfaaW.PrintLast Go.Proofs.YtgdbnioodimlfaaW.PrintMore Go.Proofs.Ytgdbnioodimlfaa.PTopWashed Go.Proofs.Ytgdbnioodimlfaa.Sq
attribute [local go_sem] max2_int min2_int max_two min_two max_three min_three max_four min_four
set_option linter.unusedVariables false
set_option linter.unusedSimpArgs false

section
variable {P : Program} {ops : Array Oper} {Q : Exit → Act → World → Prop} {l n : Nat}
theorem wideRound_depth : (Fence.wide.inRound l).depth.isSome = true → 1 ≤ n := by intro h; simp [Fence.wide, Fence.inRound] at h
theorem opsIn_of_ops (hL : ¬ LetsOut Q) (hnd : ∀ (i : Nat) (o : Oper) (c : Call), ops[i]? = some o → o.op ≠ .defer c) : ∀ (is : List Nat) (a : Act) (w : World), wpOps P ops Q is a w → wpOpsIn (Fence.wide.inRound l) n P ops Q is a w := by
  intro is
  induction is with
  | nil => exact fun a w h => h
  | cons i is ih =>
    intro a w h
    rw [wpOps_cons] at h
    rw [wpOpsIn_cons]
    unfold wpOp at h
    unfold wpOpIn
    cases ho : ops[i]? with
    | none => rw [ho] at h; exact ih _ _ h
    | some o =>
      rw [ho] at h
      simp only at h ⊢
      by_cases hw : Region.wanted o (yielded ops a.tmps) = true
      · simp only [hw, if_true] at h ⊢
        rcases h with h | ⟨_, h2⟩
        · refine ⟨fun _ _ => trivial, ?_⟩
          have hs : Oper.semAt (Fence.wide.inRound l).round a.eval o = execOp a.eval o := Oper.semAt_eq _ _ _ (fun c => hnd i o c ho)
          rw [hs]
          unfold Oper.wp at h
          generalize (execOp a.eval o).run P w = r at h ⊢
          cases r with
          | ok nx w' =>
            cases nx <;> simp only [Oper.upon, Oper.uponIn] at h ⊢
            case value v => exact ih _ _ h
            case skip => exact ih _ _ h
            case defer d => exact ih _ _ h
            case enter f args =>
              refine ⟨wideRound_depth, ((callsIn_wide.2 h).inRound l).mono fun e w'' hh => ?_⟩
              cases e with
              | returned v => exact ih _ _ hh
              | panicked c => exact hh
              | outgrown => exact hh
            case row r args =>
              refine ⟨wideRound_depth, fun c cs _ => ?_⟩
              obtain ⟨v, w'', hh, hst⟩ := h c cs
              exact ⟨v, w'', ih _ _ hh, stepsIn_wide.2 hst⟩
          | halt x w' => cases x <;> simp only [Oper.upon, Oper.uponIn] at h ⊢ <;> exact h
        · exact absurd h2 hL
      · simp only [hw, if_false, Bool.false_eq_true] at h ⊢
        exact ⟨fun _ _ => trivial, ih _ _ h⟩
def noDefer (ops : Array Oper) : Bool := ops.all fun o => match o.op with | .defer _ => false | _ => true
theorem noDefer_spec (h : noDefer ops = true) : ∀ (i : Nat) (o : Oper) (c : Call), ops[i]? = some o → o.op ≠ .defer c := by
  intro i o c ho hc
  have hm := Array.mem_of_getElem? ho
  have := Array.all_eq_true_iff_forall_mem.1 h o hm
  rw [hc] at this
  cases this
/-- A plain region in a round, by the plain walk. -/
theorem roundRegion {id : Nat} {os : List Oper} {a : Act} {w : World} (hL : ¬ LetsOut Q) (hnd : noDefer os.toArray = true) (h : wpList P os.toArray Q os a w) : (Code.region id os.toArray false).wpIn (Fence.wide.inRound l) n P Q a w := by
  refine wpIn_region (opsIn_of_ops hL (noDefer_spec hnd) _ a w ?_)
  have := wpOps_eq_wpList (P := P) (ops := os.toArray) (Q := Q) os 0 (by simp)
  rw [List.size_toArray, List.range_eq_range', this]
  exact h
/-- A region that draws, in a round. -/
theorem roundDraw {id : Nat} {a : Act} {w : World} (ks : Plan) (S : World → Prop) (hL : ¬ LetsOut Q) (hnd : noDefer ops = true) (hm : P.follows .mixedOrders = true) (hn : ops.size = ks.length) (hc : seqOk .any ops (lastsOf ks) ks (Array.replicate ks.length false) = true)
    (hQ : ∀ c a d v w, Q (.panic c) (Act.put a d v) w → Q (.panic c) a w) (hS : S w.drew) (h : wpSeq P ops Q S ks a w.drew) : (Code.region id ops true).wpIn (Fence.wide.inRound l) n P Q a w := by
  refine wpIn_region_draw fun t => ?_
  simp only [Region.schedule, hm, Bool.true_or, if_true]
  refine opsIn_of_ops hL (noDefer_spec hnd) _ _ _ (wpAny_sound ops.size t _ a w.drew (wpAny_of_last (S := S) (ds := lastsOf ks) _ _ _ _ ?_) : wpOps P ops Q (Region.linearise .any ops t) a w.drew)
  rw [hn]
  exact wpAnyLast_of_seq hQ ks _ a w.drew hc (fun _ => hS) h
end

section
variable {P : Program}
def bot : Exit → Act → World → Prop := fun _ _ _ => False
theorem bot_lets {K : Act → World → Prop} : ¬ LetsOut (Exit.then K bot) := by rintro ⟨a, w, h⟩; exact h
theorem bot_panic {K : Act → World → Prop} : ∀ (c : List PanicEntry) (a : Act) (d : Option Tmp) (v : Value) (w : World), Exit.then K bot (.panic c) (Act.put a d v) w → Exit.then K bot (.panic c) a w := fun _ _ _ _ _ h => h
/-- A range over a function that calls yield once, behind which nothing is done: the round is walked once. -/
theorem rangeOnce {g : Operand} {ps : Array Tmp} {assign body : Code} {Q : Exit → Act → World → Prop} {a : Act} {w : World} {gf : Nat} {p : Tmp} {lb : Array Value} (enc : Value)
    (hg : a.eval g = .func (.func gf) #[] lb) (eg : ∀ args w, (callFunc gf args).run P w = .ok (.enter gf args) w) (hps : ps = #[p]) (I : World → Prop)
    (hI : ∀ (W : World) (r r' : Loop), I W → W.heap[w.heap.size + 1]? = some (.loop r) → I (W.putObj (w.heap.size + 1) (.loop r')))
    (hseq : ∀ (Post : World → Prop) (W1 : World), Below w.heap.size w W1 → (∀ W, Below W1.heap.size W1 W → YieldAt Fence.wide 0 P (w.heap.size + 1) #[enc] W fun e w' => e = .returned (.bool true) ∧ Post w') →
      Calls P gf (#[.func (.yield (w.heap.size + 1)) #[] #[]] ++ lb) W1 fun e w' => (∃ v, e = .returned v) ∧ Post w')
    (hround : ∀ (rec : LoopState → Loop) (W : World), Below w.heap.size w W → W.heap[w.heap.size]? = some (.deferred (some [])) → W.heap[w.heap.size + 1]? = some (.loop (rec .ready)) →
      assign.wpIn (Fence.wide.inRound (w.heap.size + 1)) 0 P (Exit.then (fun a1 w1 => w1.heap[w.heap.size + 1]? = some (.loop (rec .ready)) ∧
        body.wpIn (Fence.wide.inRound (w.heap.size + 1)) 0 P (Exit.then (fun _ w2 => w2.heap[w.heap.size + 1]? = some (.loop (rec .busy)) ∧ w2.heap[w.heap.size]? = some (.deferred (some [])) ∧ I w2) bot) a1 (w1.putObj (w.heap.size + 1) (.loop (rec .busy)))) bot)
        { tmps := a.tmps.setIfInBounds p enc, defers := [] } W)
    (hdone : ∀ (W : World), I W → W.heap[w.heap.size]? = some (.deferred (some [])) → Q .normal { a with defers := { target := .collected w.heap.size, args := #[] } :: a.defers } W) :
    (Code.rangeFunc g ps assign body).wpIn Fence.wide 1 P Q a w := by
  subst hps
  have hz : ∀ T : Array Value, ((#[p] : Array Tmp).zip #[enc]).foldl (fun t (p, v) => t.setIfInBounds p v) T = T.setIfInBounds p enc := fun T => by simp [Array.zip]
  refine wpIn_rangeFunc ?_
  intro fn hfn
  obtain ⟨rec, hrec⟩ : ∃ rec : LoopState → Loop, rec = fun st => { state := st, pending := none, fn, tmps := a.tmps, params := #[p], assign, body, defers := w.heap.size } := ⟨_, rfl⟩
  obtain ⟨W1, hW1⟩ : ∃ W1, (w.alloc (.deferred (some []))).alloc (.loop (rec .ready)) = W1 := ⟨_, rfl⟩
  have hL1 : W1.heap[w.heap.size + 1]? = some (.loop (rec .ready)) := by
    rw [← hW1]; have := World.alloc_heap_new (w.alloc (.deferred (some []))) (.loop (rec .ready)); rwa [World.size_alloc] at this
  have hK1 : W1.heap[w.heap.size]? = some (.deferred (some [])) := by
    rw [← hW1]; exact (Below.heap_alloc _ _ _ (by simp)).trans (World.alloc_heap_new w _)
  have hb1 : Below w.heap.size w W1 := by
    rw [← hW1]; exact below_alloc (below_alloc (Below.refl _ _) _) _
  refine ⟨w.heap.size + 1, [{ target := .collected w.heap.size, args := #[] }], W1, { target := .fn (.func gf) lb, args := #[.func (.yield (w.heap.size + 1)) #[] #[]] }, W1, gf,
    #[.func (.yield (w.heap.size + 1)) #[] #[]] ++ lb, W1, ?_, ?_, ?_, ?_, fun h => by simp [Fence.wide] at h, ?_⟩
  · rw [← hW1, hrec]; exact run_enterLoop_outer _ _ _ _ _
  · simp only [resolve, hg]
    simp [go_sem]
  · intro f' hf'; trivial
  · simp [invoke, go_sem, eg]
  · refine callsIn_wide.2 ((hseq (fun w' => w'.heap[w.heap.size + 1]? = some (.loop (rec .ready)) ∧ w'.heap[w.heap.size]? = some (.deferred (some [])) ∧ I w') W1 hb1 ?_).mono ?_)
    · intro W hW
      have hl : W.heap[w.heap.size + 1]? = some (.loop (rec .ready)) := (hW.block _ (Array.getElem?_eq_some_iff.1 hL1).1).trans hL1
      have hk : W.heap[w.heap.size]? = some (.deferred (some [])) := (hW.block _ (Array.getElem?_eq_some_iff.1 hK1).1).trans hK1
      have hy := run_yield (P := P) (args := #[enc]) hl (by rw [hrec]; simp)
      rw [hrec] at hy
      simp only [hz] at hy
      refine ⟨fn, _, assign, body, hy, roundIn_of_wpIn hfn (wpIn_mono (hround rec W (below_then hb1 hb1.size hW) hk hl) ?_)⟩
      rintro e a1 w1 hp
      cases e with
      | normal =>
        obtain ⟨hl1, hbody⟩ := hp
        refine ⟨_, by have := run_beginRound (P := P) hl1 (by rw [hrec]); exact this, ?_⟩
        refine wpIn_mono (show body.wpIn _ _ P _ a1 (w1.putObj (w.heap.size + 1) (.loop { rec .ready with state := .busy })) from by rw [hrec] at hbody ⊢; exact hbody) ?_
        rintro e a2 w2 hq
        cases e with
        | normal =>
          obtain ⟨hl2, hk2, hi2⟩ := hq
          have hlt2 := (Array.getElem?_eq_some_iff.1 hl2).1
          have hr := run_endRound (P := P) none hl2
          refine ⟨_, _, hr, rfl, ?_, ?_, ?_⟩
          · rw [World.putObj_heap_same hlt2, hrec]; rfl
          · rw [World.putObj_heap_other (by omega)]; exact hk2
          · exact hI _ _ _ hi2 hl2
        | ret => exact hq.elim
        | exit id => exact hq.elim
        | goto t => exact hq.elim
        | panic ch => exact hq.elim
        | outgrown => exact hq.elim
      | ret => exact hp.elim
      | exit id => exact hp.elim
      | goto t => exact hp.elim
      | panic ch => exact hp.elim
      | outgrown => exact hp.elim
    · rintro e W2 ⟨⟨v, rfl⟩, hl, hk, hi⟩
      refine ⟨none, _, by have := run_endLoop (P := P) hl (by rw [hrec]; simp); rw [hrec] at this; exact this, ?_⟩
      exact hdone _ (hI _ _ _ hi hl) ((World.putObj_heap_other (by omega)).trans hk)
end

section
variable {A2 : Option Addr} {c2 : Nat} {A3 : Option Addr} {c3 : Nat} {A4 : Option Addr} {c4 : Nat} {cl : List S65} {ti : List S73} {cp : List S74}
/-- A house at work at block b: the house, and one truth. -/
structure WorkIn (w : World) (b : Nat) (hc : List Value) (e0 e1 e2 e3 : Int) : Prop where
  out : ∃ (tb cap : Nat) (mv : Value) (cs : Array Value), At w b (hc ++ [.slice (some ⟨tb, 0, none⟩) 1 cap, mv]).toArray 115 ∧ At w tb cs 103 ∧ cs[0]? = some (.int .i64 e0) ∧ cs[1]? = some (.int .i64 e1) ∧ cs[2]? = some (.int .i64 e2) ∧ cs[3]? = some (.int .i64 e3)

end

end Go.Proofs.Ytgdbnioodimlfaa.Wk
