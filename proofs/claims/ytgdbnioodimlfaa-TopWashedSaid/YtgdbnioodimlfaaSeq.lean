/- A region that draws its order, walked in the text's order: plain lemmas over the printed words. Conditions: none of its own. -/
import Derived.Test.YtgdbnioodimlfaaPTopWashedx0
namespace Go.Proofs.Ytgdbnioodimlfaa.Sq
open Go.RowKit Go.Proofs.YtgdbnioodimlfaaW.PrintWords Go.Proofs.YtgdbnioodimlfaaW.PrintLast Go.Proofs.YtgdbnioodimlfaaW.PrintMore

/-- Each operation of a region by its number and its kind, in the order of the walk: 0 a read under S, 1 an effect that keeps S, 2 an effect behind which S is not shown, 3 pure (in every world). -/
abbrev Plan := List (Nat × Nat)
def lastsOf (ks : Plan) : List Nat := (ks.filter fun p => p.2 == 2).map (·.1)

def stepOk (md : Region.Mode) (ops : Array Oper) (ds : List Nat) (l : Array Bool) (i kd : Nat) : Bool :=
  match kd with
  | 0 => takeB md ops ds l (l.setIfInBounds i true) i && (ds.all fun d => !l.getD d true)
  | 1 => readyB md ops l (l.setIfInBounds i true) i && (ds.all fun d => !l.getD d true && d != i)
  | 2 => readyB md ops l (l.setIfInBounds i true) i && ds.contains i
  | 3 => anyB md ops l (l.setIfInBounds i true) i
  | _ => false

def seqOk (md : Region.Mode) (ops : Array Oper) (ds : List Nat) : Plan → Array Bool → Bool
  | [], l => (Region.ready md ops l == [])
  | (i, kd) :: ks, l => stepOk md ops ds l i kd && seqOk md ops ds ks (l.setIfInBounds i true)

def wpSeq (P : Program) (ops : Array Oper) (Q : Exit → Act → World → Prop) (S : World → Prop) : Plan → Act → World → Prop
  | [], a, w => Q .normal a w
  | (i, 0) :: ks, a, w => ∃ o v, ops[i]? = some o ∧ YieldsIf P ops S o v a ∧ wpSeq P ops Q S ks (a.put o.dst v) w
  | (i, 1) :: ks, a, w => ∃ o, ops[i]? = some o ∧ (S w → wpList P ops (Exit.then (fun a' w' => S w' ∧ wpSeq P ops Q S ks a' w') Q) [o] a w)
  | (i, 2) :: ks, a, w => ∃ o, ops[i]? = some o ∧ wpList P ops (Exit.then (fun a' w' => wpSeq P ops Q S ks a' w') Q) [o] a w
  | (i, _) :: ks, a, w => ∃ o v, ops[i]? = some o ∧ Yields P ops o v a ∧ wpSeq P ops Q S ks (a.put o.dst v) w

section
variable {P : Program} {ops : Array Oper} {Q : Exit → Act → World → Prop} {S : World → Prop} {md : Region.Mode} {ds : List Nat}

theorem upon_then {o : Oper} {a : Act} {K K' : Act → World → Prop} {r : Result Next} (hK : ∀ a w, K a w → K' a w) (h : o.upon P a K (Exit.then K Q) r) : o.upon P a K' Q r := by
  cases r with
  | ok nx w' =>
    cases nx <;> simp only [Oper.upon] at h ⊢
    case value v => exact hK _ _ h
    case skip => exact hK _ _ h
    case defer d => exact hK _ _ h
    case enter f args =>
      refine h.mono fun e w'' hh => ?_
      cases e with
      | returned v => exact hK _ _ hh
      | panicked c => exact hh
      | outgrown => exact hh
    case row r args => exact h.mono fun v w'' hh => hK _ _ hh
  | halt x w' =>
    cases x <;> simp only [Oper.upon] at h ⊢
    case panic u => exact h

theorem wpOp_of_list {k : Nat} {o : Oper} {a : Act} {w : World} {K K' : Act → World → Prop} (ho : ops[k]? = some o) (hK : ∀ a w, K a w → K' a w) (h : wpList P ops (Exit.then K Q) [o] a w) : wpOp P ops Q k K' a w := by
  unfold wpOp
  rw [ho]
  simp only [wpList] at h
  by_cases hw : Region.wanted o (yielded ops a.tmps) = true
  · simp only [hw, if_true] at h ⊢
    rcases h with h | ⟨h1, h2⟩
    · exact .inl (upon_then hK (show o.upon P a K (Exit.then K Q) _ from h))
    · exact .inr ⟨h1, h2⟩
  · simp only [hw] at h ⊢
    exact hK _ _ h

theorem getD_of_set {l : Array Bool} {i d : Nat} (h : (l.setIfInBounds i true).getD d true = false) : l.getD d true = false := by
  by_cases e : i = d
  · subst e
    rcases Nat.lt_or_ge i l.size with hl | hl
    · simp [hl] at h
    · simp at h
  · rwa [getD_set_ne true e] at h

theorem wpAnyLast_of_seq (hQ : ∀ c a d v w, Q (.panic c) (Act.put a d v) w → Q (.panic c) a w) :
    ∀ (ks : Plan) (l : Array Bool) (a : Act) (w : World), seqOk md ops ds ks l = true → ((∀ d ∈ ds, l.getD d true = false) → S w) → wpSeq P ops Q S ks a w → wpAnyLast P md ops Q S ds ks.length l a w := by
  intro ks
  induction ks with
  | nil =>
    intro l a w hc _ h
    exact done_ hc h
  | cons p ks ih =>
    obtain ⟨i, kd⟩ := p
    intro l a w hc hS h
    have hc' : (stepOk md ops ds l i kd && seqOk md ops ds ks (l.setIfInBounds i true)) = true := hc
    rw [Bool.and_eq_true] at hc'
    obtain ⟨h1, h2⟩ := hc'
    match kd, h1, h with
    | 0, h1, h =>
      obtain ⟨o, v, ho, hy, hr⟩ := h
      have h1' : (takeB md ops ds l (l.setIfInBounds i true) i && (ds.all fun d => !l.getD d true)) = true := h1
      rw [Bool.and_eq_true] at h1'
      have hle : ∀ d ∈ ds, l.getD d true = false := fun d hd => by simpa using List.all_eq_true.1 h1'.2 d hd
      exact take_ _ ho rfl h1'.1 (fun c a w => hQ c a _ _ w) hy (hS hle) rfl (ih _ _ _ h2 (fun _ => hS hle) hr)
    | 1, h1, h =>
      obtain ⟨o, ho, hr⟩ := h
      have h1' : (readyB md ops l (l.setIfInBounds i true) i && (ds.all fun d => !l.getD d true && d != i)) = true := h1
      rw [Bool.and_eq_true] at h1'
      obtain ⟨h3, h4⟩ := h1'
      have hle : ∀ d ∈ ds, l.getD d true = false := fun d hd => by
        have := List.all_eq_true.1 h4 d hd
        rw [Bool.and_eq_true] at this
        simpa using this.1
      simp only [readyB, Bool.and_eq_true, beq_iff_eq] at h3
      show wpAnyLast P md ops Q S ds (ks.length + 1) l a w
      refine wpAnyLast_all h3.1 (by simp) (fun j hj => ?_)
      obtain rfl : j = i := by simpa using hj
      exact wpOp_of_list ho (fun a' w' hh => ⟨fun _ _ => hh.1, ih _ _ _ h2 (fun _ => hh.1) hh.2⟩) (hr (hS hle))
    | 2, h1, h =>
      obtain ⟨o, ho, hr⟩ := h
      have h1' : (readyB md ops l (l.setIfInBounds i true) i && ds.contains i) = true := h1
      rw [Bool.and_eq_true] at h1'
      obtain ⟨h3, h4⟩ := h1'
      have hkd : i ∈ ds := by simpa using h4
      simp only [readyB, Bool.and_eq_true, beq_iff_eq] at h3
      show wpAnyLast P md ops Q S ds (ks.length + 1) l a w
      refine wpAnyLast_all h3.1 (by simp) (fun j hj => ?_)
      obtain rfl : j = i := by simpa using hj
      refine wpOp_of_list ho (fun a' w' hh => ⟨fun hn _ => absurd hkd hn, ih _ _ _ h2 (fun hd => ?_) hh⟩) hr
      have h5 := hd _ hkd
      rcases Nat.lt_or_ge j l.size with hl | hl
      · simp [hl] at h5
      · simp [hl] at h5
    | (m + 3), h1, h =>
      obtain ⟨o, v, ho, hy, hr⟩ := h
      match m, h1 with
      | 0, h1 => exact pure_ _ ho rfl h1 (fun c a w => hQ c a _ _ w) hy rfl (ih _ _ _ h2 (fun hd => hS fun d hd' => getD_of_set (hd d hd')) hr)

/-- A region that draws, in the plan's order. One check by the kernel. -/
theorem region_seq {id : Nat} {a : Act} {w : World} (ks : Plan) (S : World → Prop) (hm : P.follows .mixedOrders = true) (hn : ops.size = ks.length) (hc : seqOk .any ops (lastsOf ks) ks (Array.replicate ks.length false) = true)
    (hQ : ∀ c a d v w, Q (.panic c) (Act.put a d v) w → Q (.panic c) a w) (hS : S w.drew) (h : wpSeq P ops Q S ks a w.drew) : (Code.region id ops true).wp P Q a w :=
  start_ (S := S) (ds := lastsOf ks) (n := ks.length) (Array.replicate ks.length false) hm hn rfl hS (fun _ => wpAnyLast_of_seq hQ ks _ a w.drew hc (fun _ => hS) h)
/-- The same; what is kept: all blocks that lie. -/
theorem region_b {id : Nat} {a : Act} {w : World} (ks : Plan) (hm : P.follows .mixedOrders = true) (hn : ops.size = ks.length) (hc : seqOk .any ops (lastsOf ks) ks (Array.replicate ks.length false) = true)
    (hQ : ∀ c a d v w, Q (.panic c) (Act.put a d v) w → Q (.panic c) a w) (h : wpSeq P ops Q (fun w' => Below w.heap.size w w') ks a w.drew) : (Code.region id ops true).wp P Q a w :=
  region_seq ks _ hm hn hc hQ (Below.refl _ _).drew h

variable {ks : Plan} {i : Nat} {o : Oper} {a : Act} {w : World}
theorem seq_read {v : Value} {a' : Act} (ho : ops[i]? = some o) (hw : Region.wanted o (yielded ops a.tmps) = true) (hy : ∀ w, S w → (execOp a.eval o).run P w = .ok (.value v) w) (ha : a.put o.dst v = a')
    (h : wpSeq P ops Q S ks a' w) : wpSeq P ops Q S ((i, 0) :: ks) a w := by
  subst ha
  exact ⟨o, v, ho, .inl ⟨hw, hy⟩, h⟩
theorem seq_off {a' : Act} (ho : ops[i]? = some o) (hw : Region.wanted o (yielded ops a.tmps) = false) (ha : a.put o.dst undef = a')
    (h : wpSeq P ops Q S ks a' w) : wpSeq P ops Q S ((i, 0) :: ks) a w := by
  subst ha
  exact ⟨o, undef, ho, .inr ⟨hw, rfl⟩, h⟩
theorem seq_pure {v : Value} {a' : Act} (ho : ops[i]? = some o) (hw : Region.wanted o (yielded ops a.tmps) = true) (hy : ∀ w, (execOp a.eval o).run P w = .ok (.value v) w) (ha : a.put o.dst v = a')
    (h : wpSeq P ops Q S ks a' w) : wpSeq P ops Q S ((i, 3) :: ks) a w := by
  subst ha
  exact ⟨o, v, ho, .inl ⟨hw, hy⟩, h⟩
theorem seq_poff {a' : Act} (ho : ops[i]? = some o) (hw : Region.wanted o (yielded ops a.tmps) = false) (ha : a.put o.dst undef = a')
    (h : wpSeq P ops Q S ks a' w) : wpSeq P ops Q S ((i, 3) :: ks) a w := by
  subst ha
  exact ⟨o, undef, ho, .inr ⟨hw, rfl⟩, h⟩
theorem seq_do (ho : ops[i]? = some o) (h : S w → wpList P ops (Exit.then (fun a' w' => S w' ∧ wpSeq P ops Q S ks a' w') Q) [o] a w) : wpSeq P ops Q S ((i, 1) :: ks) a w := ⟨o, ho, h⟩
theorem seq_last (ho : ops[i]? = some o) (h : wpList P ops (Exit.then (fun a' w' => wpSeq P ops Q S ks a' w') Q) [o] a w) : wpSeq P ops Q S ((i, 2) :: ks) a w := ⟨o, ho, h⟩
theorem seq_done (h : Q .normal a w) : wpSeq P ops Q S [] a w := h
end

section
variable {P : Program} {Q : Exit → Act → World → Prop} {cd : Code} {a : Act} {w : World}
/-- Block g holds the cells cs, and none is frozen. -/
structure At (w : World) (g : Nat) (cs : Array Value) (t : TypeId) : Prop where mk :: (out : w.heap[g]? = some (.cells cs t (0, 0)))
theorem At.cl {g : Nat} {cs : Array Value} {t : TypeId} (h : At w g cs t) : ∀ i, w.cell? ⟨g, i, none⟩ = cs[i]? := fun i => blk_cell h.out i
theorem At.fr {g : Nat} {cs : Array Value} {t : TypeId} (h : At w g cs t) : ∀ i, w.frozen? ⟨g, i, none⟩ = false := fun i => blk_frozen h.out i
theorem At.below {w1 : World} {g : Nat} {cs : Array Value} {t : TypeId} (h : At w g cs t) (hb : Below w.heap.size w w1) : At w1 g cs t := ⟨blk_below h.out hb⟩
theorem At.drew {g : Nat} {cs : Array Value} {t : TypeId} (h : At w g cs t) : At w.drew g cs t := ⟨h.out⟩
theorem At.drewN {g : Nat} {cs : Array Value} {t : TypeId} (h : At w g cs t) (n : Nat) : At (w.drewN n) g cs t := ⟨h.out⟩
theorem At.alloc {g : Nat} {cs : Array Value} {t : TypeId} (h : At w g cs t) (o : Obj) : At (w.alloc o) g cs t := ⟨blk_alloc h.out o⟩
theorem At.new (w : World) (cs : Array Value) (t : TypeId) : At (w.alloc (.cells cs t)) w.heap.size cs t := ⟨blk_new w _⟩
theorem At.far {g : Nat} {cs : Array Value} {t : TypeId} (h : At w g cs t) {p : Addr} (hp : g ≠ p.block) (u : Value) : At (w.setCell p u) g cs t := ⟨blk_far h.out hp u⟩
theorem At.set {g : Nat} {cs : Array Value} {t : TypeId} (h : At w g cs t) (i : Nat) (u : Value) : At (w.setCell ⟨g, i, none⟩ u) g (cs.setIfInBounds i u) t := ⟨blk_set h.out i u⟩
theorem At.lt {g : Nat} {cs : Array Value} {t : TypeId} (h : At w g cs t) : g < w.heap.size := blk_lt h.out

theorem wp_new1 {cs : Array Value} {t : TypeId} (h : ∀ w1, At w1 w.heap.size cs t → Aside0 (Below w.heap.size w w1) → Aside0 (w1.heap.size = w.heap.size + 1) → cd.wp P Q a w1) : cd.wp P Q a (w.alloc (.cells cs t)) :=
  h _ (At.new w cs t) ⟨below_alloc (Below.refl _ _) _⟩ ⟨by simp⟩
theorem wp_new2 {cs cs2 : Array Value} {t t2 : TypeId} (h : ∀ w1, At w1 w.heap.size cs t → At w1 (w.heap.size + 1) cs2 t2 → Aside0 (Below w.heap.size w w1) → Aside0 (w1.heap.size = w.heap.size + 2) → cd.wp P Q a w1) : cd.wp P Q a ((w.alloc (.cells cs t)).alloc (.cells cs2 t2)) :=
  h _ ((At.new w cs t).alloc _) (by simpa using At.new (w.alloc (.cells cs t)) cs2 t2) ⟨below_alloc (below_alloc (Below.refl _ _) _) _⟩ ⟨by simp⟩
theorem one_new {w1 : World} {cs : Array Value} {t : TypeId} (hb : Below (w.alloc (.cells cs t)).heap.size (w.alloc (.cells cs t)) w1) : At w1 w.heap.size cs t ∧ Aside0 (Below w.heap.size w w1) :=
  ⟨(At.new w cs t).below hb, ⟨below_step (below_alloc (Below.refl _ _) _) hb⟩⟩
theorem two_new {w1 : World} {cs cs2 : Array Value} {t t2 : TypeId} (hb : Below ((w.alloc (.cells cs t)).alloc (.cells cs2 t2)).heap.size ((w.alloc (.cells cs t)).alloc (.cells cs2 t2)) w1) :
    At w1 w.heap.size cs t ∧ At w1 (w.heap.size + 1) cs2 t2 ∧ Aside0 (Below w.heap.size w w1) :=
  ⟨((At.new w cs t).alloc _).below hb, At.below (by simpa using At.new (w.alloc (.cells cs t)) cs2 t2) hb, ⟨below_step (below_alloc (below_alloc (Below.refl _ _) _) _) hb⟩⟩
end
end Go.Proofs.Ytgdbnioodimlfaa.Sq
