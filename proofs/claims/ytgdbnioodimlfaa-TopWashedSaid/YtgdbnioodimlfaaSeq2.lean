/- A region that draws its order, where two effects may come up in either order: plain lemmas over the printed words. Conditions: none of its own. -/
import Derived.Test.YtgdbnioodimlfaaSeq
namespace Go.Proofs.Ytgdbnioodimlfaa.Sq
open Go.RowKit Go.Proofs.YtgdbnioodimlfaaW.PrintWords Go.Proofs.YtgdbnioodimlfaaW.PrintLast Go.Proofs.YtgdbnioodimlfaaW.PrintMore

/-- A plan, and behind it two effects in either order, each with what follows. -/
inductive Tree where
  | seg (ks : Plan)
  | fork (ks : Plan) (i j : Nat) (t u : Tree)

def markAll (ks : Plan) (l : Array Bool) : Array Bool := ks.foldl (fun l p => l.setIfInBounds p.1 true) l

def preOk (md : Region.Mode) (ops : Array Oper) (ds : List Nat) : Plan → Array Bool → Bool
  | [], _ => true
  | (i, kd) :: ks, l => stepOk md ops ds l i kd && preOk md ops ds ks (l.setIfInBounds i true)

def Tree.len : Tree → Nat
  | .seg ks => ks.length
  | .fork ks _ _ t _ => ks.length + (t.len + 1)

def Tree.ok (md : Region.Mode) (ops : Array Oper) (ds : List Nat) : Tree → Array Bool → Bool
  | .seg ks, l => seqOk md ops ds ks l
  | .fork ks i j t u, l => preOk md ops ds ks l && (Region.ready md ops (markAll ks l) == [i, j]) && (ds.all fun d => !(markAll ks l).getD d true && d != i && d != j) && (t.len == u.len) &&
      t.ok md ops ds ((markAll ks l).setIfInBounds i true) && u.ok md ops ds ((markAll ks l).setIfInBounds j true)

def Tree.wp (P : Program) (ops : Array Oper) (Q : Exit → Act → World → Prop) (S : World → Prop) : Tree → Act → World → Prop
  | .seg ks, a, w => wpSeq P ops Q S ks a w
  | .fork ks i j t u, a, w => wpSeq P ops (Exit.then (fun a w =>
      (∃ o, ops[i]? = some o ∧ (S w → wpList P ops (Exit.then (fun a' w' => S w' ∧ t.wp P ops Q S a' w') Q) [o] a w)) ∧
      (∃ o, ops[j]? = some o ∧ (S w → wpList P ops (Exit.then (fun a' w' => S w' ∧ u.wp P ops Q S a' w') Q) [o] a w))) Q) S ks a w

section
variable {P : Program} {ops : Array Oper} {Q : Exit → Act → World → Prop} {S : World → Prop} {md : Region.Mode} {ds : List Nat}

theorem then_then (K K' : Act → World → Prop) : Exit.then K (Exit.then K' Q) = Exit.then K Q := by
  funext e a w
  cases e <;> rfl

theorem wpAnyLast_pre {Kn : Act → World → Prop} (hQ : ∀ c a d v w, Q (.panic c) (Act.put a d v) w → Q (.panic c) a w) (n : Nat) :
    ∀ (ks : Plan) (l : Array Bool) (a : Act) (w : World), preOk md ops ds ks l = true → ((∀ d ∈ ds, l.getD d true = false) → S w) → wpSeq P ops (Exit.then Kn Q) S ks a w →
      (∀ a w, ((∀ d ∈ ds, (markAll ks l).getD d true = false) → S w) → Kn a w → wpAnyLast P md ops Q S ds n (markAll ks l) a w) → wpAnyLast P md ops Q S ds (ks.length + n) l a w := by
  intro ks
  induction ks with
  | nil =>
    intro l a w _ hS h hK
    rw [List.length_nil, Nat.zero_add]
    exact hK a w hS h
  | cons p ks ih =>
    obtain ⟨i, kd⟩ := p
    intro l a w hc hS h hK
    have hc' : (stepOk md ops ds l i kd && preOk md ops ds ks (l.setIfInBounds i true)) = true := hc
    rw [Bool.and_eq_true] at hc'
    obtain ⟨h1, h2⟩ := hc'
    rw [List.length_cons, Nat.add_right_comm]
    match kd, h1, h with
    | 0, h1, h =>
      obtain ⟨o, v, ho, hy, hr⟩ := h
      have h1' : (takeB md ops ds l (l.setIfInBounds i true) i && (ds.all fun d => !l.getD d true)) = true := h1
      rw [Bool.and_eq_true] at h1'
      have hle : ∀ d ∈ ds, l.getD d true = false := fun d hd => by simpa using List.all_eq_true.1 h1'.2 d hd
      exact take_ _ ho rfl h1'.1 (fun c a w => hQ c a _ _ w) hy (hS hle) rfl (ih _ _ _ h2 (fun _ => hS hle) hr hK)
    | 1, h1, h =>
      obtain ⟨o, ho, hr⟩ := h
      have h1' : (readyB md ops l (l.setIfInBounds i true) i && (ds.all fun d => !l.getD d true && d != i)) = true := h1
      rw [Bool.and_eq_true] at h1'
      obtain ⟨h3, h4⟩ := h1'
      have hle : ∀ d ∈ ds, l.getD d true = false := fun d hd => by
        have := List.all_eq_true.1 h4 d hd
        rw [Bool.and_eq_true] at this
        simpa using this.1
      simp only [readyB, Bool.and_eq_true, beq_iff_eq] at h3
      refine wpAnyLast_all h3.1 (by simp) (fun j hj => ?_)
      obtain rfl : j = i := by simpa using hj
      have hr' := hr (hS hle)
      rw [then_then] at hr'
      exact wpOp_of_list ho (fun a' w' hh => ⟨fun _ _ => hh.1, ih _ _ _ h2 (fun _ => hh.1) hh.2 hK⟩) hr'
    | 2, h1, h =>
      obtain ⟨o, ho, hr⟩ := h
      have h1' : (readyB md ops l (l.setIfInBounds i true) i && ds.contains i) = true := h1
      rw [Bool.and_eq_true] at h1'
      obtain ⟨h3, h4⟩ := h1'
      have hkd : i ∈ ds := by simpa using h4
      simp only [readyB, Bool.and_eq_true, beq_iff_eq] at h3
      refine wpAnyLast_all h3.1 (by simp) (fun j hj => ?_)
      obtain rfl : j = i := by simpa using hj
      rw [then_then] at hr
      refine wpOp_of_list ho (fun a' w' hh => ⟨fun hn _ => absurd hkd hn, ih _ _ _ h2 (fun hd => ?_) hh hK⟩) hr
      have h5 := hd _ hkd
      rcases Nat.lt_or_ge j l.size with hl | hl
      · simp [hl] at h5
      · simp [hl] at h5
    | (m + 3), h1, h =>
      obtain ⟨o, v, ho, hy, hr⟩ := h
      match m, h1 with
      | 0, h1 => exact pure_ _ ho rfl h1 (fun c a w => hQ c a _ _ w) hy rfl (ih _ _ _ h2 (fun hd => hS fun d hd' => getD_of_set (hd d hd')) hr hK)

theorem wpAnyLast_of_tree (hQ : ∀ c a d v w, Q (.panic c) (Act.put a d v) w → Q (.panic c) a w) :
    ∀ (t : Tree) (l : Array Bool) (a : Act) (w : World), t.ok md ops ds l = true → ((∀ d ∈ ds, l.getD d true = false) → S w) → t.wp P ops Q S a w → wpAnyLast P md ops Q S ds t.len l a w := by
  intro t
  induction t with
  | seg ks => exact fun l a w hc hS h => wpAnyLast_of_seq hQ ks l a w hc hS h
  | fork ks i j t u iht ihu =>
    intro l a w hc hS h
    have hc' : (preOk md ops ds ks l && (Region.ready md ops (markAll ks l) == [i, j]) && (ds.all fun d => !(markAll ks l).getD d true && d != i && d != j) && (t.len == u.len) &&
      t.ok md ops ds ((markAll ks l).setIfInBounds i true) && u.ok md ops ds ((markAll ks l).setIfInBounds j true)) = true := hc
    simp only [Bool.and_eq_true, beq_iff_eq] at hc'
    obtain ⟨⟨⟨⟨⟨c1, c2⟩, c3⟩, c4⟩, c5⟩, c6⟩ := hc'
    refine wpAnyLast_pre hQ (t.len + 1) ks l a w c1 hS h ?_
    intro a w hS2 hK
    have hle : ∀ d ∈ ds, (markAll ks l).getD d true = false := fun d hd => by
      have := List.all_eq_true.1 c3 d hd
      simp only [Bool.and_eq_true] at this
      simpa using this.1.1
    obtain ⟨⟨o, ho, h1⟩, ⟨o2, ho2, h2⟩⟩ := hK
    refine wpAnyLast_all c2 (by simp) (fun m hm => ?_)
    have hm' : m = i ∨ m = j := by simpa using hm
    rcases hm' with rfl | rfl
    · exact wpOp_of_list ho (fun a' w' hh => ⟨fun _ _ => hh.1, iht _ _ _ c5 (fun _ => hh.1) hh.2⟩) (h1 (hS2 hle))
    · exact wpOp_of_list ho2 (fun a' w' hh => ⟨fun _ _ => hh.1, c4 ▸ ihu _ _ _ c6 (fun _ => hh.1) hh.2⟩) (h2 (hS2 hle))

/-- A region that draws, in the tree's orders. What is kept: all blocks that lie. -/
theorem region_tree {id : Nat} {a : Act} {w : World} (t : Tree) (dl : List Nat) (hm : P.follows .mixedOrders = true) (hn : ops.size = t.len) (hc : t.ok .any ops dl (Array.replicate t.len false) = true)
    (hQ : ∀ c a d v w, Q (.panic c) (Act.put a d v) w → Q (.panic c) a w) (h : t.wp P ops Q (fun w' => Below w.heap.size w w') a w.drew) : (Code.region id ops true).wp P Q a w :=
  start_ (S := fun w' => Below w.heap.size w w') (ds := dl) (n := t.len) (Array.replicate t.len false) hm hn rfl (Below.refl _ _).drew (fun _ => wpAnyLast_of_tree hQ t _ a w.drew hc (fun _ => (Below.refl _ _).drew) h)
variable {ks : Plan} {i j : Nat} {t u : Tree} {a : Act} {w : World} {o o2 : Oper}
theorem tree_seg (h : wpSeq P ops Q S ks a w) : (Tree.seg ks).wp P ops Q S a w := h
theorem tree_fork (h : wpSeq P ops (Exit.then (fun a w =>
      (∃ o, ops[i]? = some o ∧ (S w → wpList P ops (Exit.then (fun a' w' => S w' ∧ t.wp P ops Q S a' w') Q) [o] a w)) ∧
      (∃ o, ops[j]? = some o ∧ (S w → wpList P ops (Exit.then (fun a' w' => S w' ∧ u.wp P ops Q S a' w') Q) [o] a w))) Q) S ks a w) : (Tree.fork ks i j t u).wp P ops Q S a w := h
theorem fork_do {Z : Oper → Prop} (ho : ops[i]? = some o) (h : Z o) : ∃ o, ops[i]? = some o ∧ Z o := ⟨o, ho, h⟩
/-- A tree from another world of which the same is known. -/
theorem tree_at {B : Nat} {w0 : World} (hS : Below B w0 w) (h : ∀ w', Below B w0 w' → t.wp P ops Q S a w') : t.wp P ops Q S a w := h w hS
end
end Go.Proofs.Ytgdbnioodimlfaa.Sq
