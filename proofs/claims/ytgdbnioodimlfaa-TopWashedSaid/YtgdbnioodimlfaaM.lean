/- A map of counts, keyed by a struct of two integers: its look-up and its entry. Conditions stand in each theorem. -/
import Derived.Test.YtgdbnioodimlfaaSeq
import Derived.Test.YtgdbnioodimlfaaV1
import Derived.WideKeyEntry
namespace Go.Proofs.Ytgdbnioodimlfaa.Wk
open Go.RowKit Go.Proofs.YtgdbnioodimlfaaW.PrintWords Go.Proofs.Ytgdbnioodimlfaa.Sq
open Go.ChangeMaps (setBlock)
set_option linter.unusedVariables false
set_option linter.unusedSimpArgs false

theorem eq121 (a b c d : Int) (w : World) : (Op.equal 121 (.agg #[.int .i64 a, .int .i64 b]) (.agg #[.int .i64 c, .int .i64 d])).run Try.prog w = .ok ((a == c) && (b == d)) w := by
  unfold Op.equal
  refine eqA_of Try.underlying121 (by kernel_rfl) ?_
  refine eqf_cons (by rfl) (a := .int .i64 a) (b := .int .i64 c) ?_ ?_ ?_ (eqf_last (by rfl) (a := .int .i64 b) (b := .int .i64 d) ?_ ?_ ?_)
  all_goals go_simp
/-- The keys are pairs of integers, the values integers. -/
def mapOk (es : Array MapEntry) : Prop := ∀ x ∈ es.toList, (∃ a b : Int, x.key = .agg #[.int .i64 a, .int .i64 b]) ∧ ∃ v : Int, x.val = .int .i64 v
def pairs (es : List MapEntry) : Prop := ∀ x ∈ es, ∃ a b : Int, x.key = .agg #[.int .i64 a, .int .i64 b]

theorem findAsk (a b : Int) (w : World) : ∀ (es : List MapEntry) (i : Nat), pairs es →
    (∀ W, (Instr.findAsking 121 (.agg #[.int .i64 a, .int .i64 b]) es i).run Try.prog W = .ok none W) ∨
    ∃ j e, (∀ W, (Instr.findAsking 121 (.agg #[.int .i64 a, .int .i64 b]) es i).run Try.prog W = .ok (some (i + j, e.val)) W) ∧ es[j]? = some e ∧ e.key = .agg #[.int .i64 a, .int .i64 b]
  | [], i, _ => .inl fun W => by simp [Instr.findAsking]
  | e :: es, i, h => by
    obtain ⟨c, d, hk⟩ := h e (by simp)
    by_cases he : a = c ∧ b = d
    · obtain ⟨rfl, rfl⟩ := he
      exact .inr ⟨0, e, fun W => by simp [Instr.findAsking, hk, eq121], rfl, hk⟩
    · have hr : ((a == c) && (b == d)) = false := by
        rw [Bool.and_eq_false_iff]
        simp only [beq_eq_false_iff_ne]
        by_cases h1 : a = c
        · exact .inr fun h2 => he ⟨h1, h2⟩
        · exact .inl h1
      rcases findAsk a b w es (i + 1) (fun y hy => h y (by simp [hy])) with h1 | ⟨j, e', h1, h2, h3⟩
      · exact .inl fun W => by simp [Instr.findAsking, hk, eq121, hr, h1]
      · exact .inr ⟨j + 1, e', fun W => by simp [Instr.findAsking, hk, eq121, hr, h1, Nat.add_assoc, Nat.add_comm 1 j], by simpa using h2, h3⟩

theorem findK (a b : Int) (es : List MapEntry) (h : pairs es) :
    (∀ W, (Instr.findKey 121 (.agg #[.int .i64 a, .int .i64 b]) es).run Try.prog W = .ok none W) ∨
    ∃ j e, (∀ W, (Instr.findKey 121 (.agg #[.int .i64 a, .int .i64 b]) es).run Try.prog W = .ok (some (j, e.val)) W) ∧ es[j]? = some e ∧ e.key = .agg #[.int .i64 a, .int .i64 b] := by
  cases es with
  | nil => exact .inl fun W => by simp [Instr.findKey, Try.underlying121, run_underlying Try.underlying121, Instr.findNow, Result.andThen]
  | cons e es =>
    have hn : ∀ D : Array Field, Instr.findNow (.struct D) (.agg #[.int .i64 a, .int .i64 b]) (e :: es) 0 = none := fun D => by simp [Instr.findNow, Instr.sameNow]
    rcases findAsk a b default (e :: es) 0 h with h1 | ⟨j, e', h1, h2, h3⟩
    · exact .inl fun W => by simp [Instr.findKey, run_underlying Try.underlying121, hn, h1, Result.andThen]
    · exact .inr ⟨j, e', fun W => by simp [Instr.findKey, run_underlying Try.underlying121, hn, h1, Result.andThen], h2, h3⟩

theorem ask_push (a b : Int) (z : Value) (c : Nat) (es : List MapEntry) : ∀ (i : Nat), pairs es → (∀ W, (Instr.findAsking 121 (.agg #[.int .i64 a, .int .i64 b]) es i).run Try.prog W = .ok none W) →
    ∀ W, (Instr.findAsking 121 (.agg #[.int .i64 a, .int .i64 b]) (es ++ [⟨.agg #[.int .i64 a, .int .i64 b], z, c⟩]) i).run Try.prog W = .ok (some (i + es.length, z)) W := by
  induction es with
  | nil =>
    intro i _ _ W
    simp [Instr.findAsking, eq121]
  | cons e es ih =>
    intro i h hn W
    obtain ⟨u, v, hk⟩ := h e (by simp)
    cases hr : ((a == u) && (b == v))
    · have h2 : ∀ W, (Instr.findAsking 121 (.agg #[.int .i64 a, .int .i64 b]) es (i + 1)).run Try.prog W = .ok none W := fun W => by
        have := hn W
        simp only [Instr.findAsking, hk, Sem.run_bind, eq121, hr, Result.andThen_ok] at this
        simpa using this
      have := ih (i + 1) (fun y hy => h y (by simp [hy])) h2 W
      rw [List.cons_append]
      simp only [Instr.findAsking, hk, Sem.run_bind, eq121, hr, Result.andThen_ok]
      simp [this, Nat.add_assoc, Nat.add_comm 1 es.length]
    · have := hn W
      simp only [Instr.findAsking, hk, Sem.run_bind, eq121, hr, Result.andThen_ok] at this
      simp at this
/-- What the map holds for a key. -/
def lookV (es : Array MapEntry) (a b v : Int) : Prop :=
  ((∀ W, (Instr.findKey 121 (.agg #[.int .i64 a, .int .i64 b]) es.toList).run Try.prog W = .ok none W) ∧ v = 0) ∨
  ∃ j e, (∀ W, (Instr.findKey 121 (.agg #[.int .i64 a, .int .i64 b]) es.toList).run Try.prog W = .ok (some (j, e.val)) W) ∧ es[j]? = some e ∧ e.key = .agg #[.int .i64 a, .int .i64 b] ∧ e.val = .int .i64 v
theorem lookV_of (es : Array MapEntry) (a b : Int) (h : mapOk es) : ∃ v, lookV es a b v := by
  rcases findK a b es.toList (fun x hx => (h x hx).1) with h1 | ⟨j, e, h1, h2, h3⟩
  · exact ⟨0, .inl ⟨h1, rfl⟩⟩
  · have h2' : es[j]? = some e := by simpa using h2
    obtain ⟨v, hv⟩ := (h e (Array.mem_toList_iff.2 (Array.mem_of_getElem? h2'))).2
    exact ⟨v, .inr ⟨j, e, h1, h2', h3, hv⟩⟩
theorem check121' (em : Bool) (n : Nat) (a b : Int) (w : World) : (Instr.checkKey em (n + 2) 121 (.agg #[.int .i64 a, .int .i64 b])).run Try.prog w = .ok () w := by
  have h3 : ∀ n W x, (Instr.checkKey em (n + 1) 3 (.int .i64 x)).run Try.prog W = .ok () W := fun n W x => by
    unfold Instr.checkKey
    simp [run_underlying Try.underlying3, Result.andThen]
  unfold Instr.checkKey
  simp [run_underlying Try.underlying121, Result.andThen, go_sem, h3]
theorem check121 (em : Bool) (a b : Int) (w : World) : (Instr.checkKey em 10000 121 (.agg #[.int .i64 a, .int .i64 b])).run Try.prog w = .ok () w := check121' em 9998 a b w
theorem zero3 (w : World) : (zeroValue 3).run Try.prog w = .ok (.int .i64 0) w := by kernel_rfl
theorem look_run {w : World} {m : Nat} {es : Array MapEntry} {c : Nat} {a b v : Int} (hb : w.heap[m]? = some (.map es c)) (hl : lookV es a b v) :
    (Instr.lookup 112 (.map (some m)) (.agg #[.int .i64 a, .int .i64 b]) false).run Try.prog w = .ok (.int .i64 v) w := by
  rcases hl with ⟨h1, rfl⟩ | ⟨j, e, h1, _, _, hv⟩
  · simp [Instr.lookup, run_underlying Try.underlying112, MapKept.run_getObj_map hb, check121, h1, zero3, Result.andThen]
  · simp [Instr.lookup, run_underlying Try.underlying112, MapKept.run_getObj_map hb, check121, h1, hv, Result.andThen]
theorem stays121 (a b : Int) (w : World) : (Instr.keyThatStays (.agg #[.int .i64 a, .int .i64 b]) (.agg #[.int .i64 a, .int .i64 b])).run Try.prog w = .ok (.agg #[.int .i64 a, .int .i64 b]) w := by
  have h : ∀ n, Instr.sameBits (n + 1) (.agg #[.int .i64 a, .int .i64 b]) (.agg #[.int .i64 a, .int .i64 b]) = true := fun n => by simp [Instr.sameBits]
  have h' : Instr.sameBits 10000 (.agg #[.int .i64 a, .int .i64 b]) (.agg #[.int .i64 a, .int .i64 b]) = true := h 9999
  simp [Instr.keyThatStays, h']
theorem entry_run {w : World} {m : Nat} {es : Array MapEntry} {c : Nat} {a b v : Int} (hb : w.heap[m]? = some (.map es c)) (hok : mapOk es) (hl : lookV es a b v) :
    ∃ (st : Nat) (es1 : Array MapEntry) (c1 : Nat), (Instr.mapEntry 112 (.map (some m)) (.agg #[.int .i64 a, .int .i64 b])).run Try.prog w = .ok (.tuple #[.int .i64 v, .int .i64 (st : Int)]) (setBlock w m (.map es1 c1)) ∧ mapOk es1 ∧ lookV es1 a b v ∧ ∃ e ∈ es1.toList, e.born = st := by
  have hok' := hok
  rcases hl with ⟨h1, rfl⟩ | ⟨j, e, h1, h2, h3, hv⟩
  · refine ⟨c, es.push ⟨.agg #[.int .i64 a, .int .i64 b], .int .i64 0, c⟩, c + 1, ?_, ?_, ?_, ?_⟩
    · simp [Instr.mapEntry, run_underlying Try.underlying112, MapKept.run_getObj_map hb, check121, h1, zero3, MapKept.run_setObj_map _ hb, Result.andThen, setBlock, goInt]
    · intro x hx
      simp only [Array.toList_push, List.mem_append, List.mem_singleton] at hx
      rcases hx with hx | rfl
      · exact hok x hx
      · exact ⟨⟨a, b, rfl⟩, 0, rfl⟩
    · refine .inr ⟨es.size, ⟨.agg #[.int .i64 a, .int .i64 b], .int .i64 0, c⟩, fun W => ?_, by simp, rfl, rfl⟩
      have hp : pairs es.toList := fun x hx => (hok x hx).1
      have hn : ∀ W, (Instr.findAsking 121 (.agg #[.int .i64 a, .int .i64 b]) es.toList 0).run Try.prog W = .ok none W := fun W => by
        cases hes : es.toList with
        | nil => simp [Instr.findAsking]
        | cons y ys =>
          have := h1 W
          rw [hes] at this
          simpa [Instr.findKey, run_underlying Try.underlying121, Instr.findNow, Instr.sameNow, Result.andThen] using this
      have := ask_push a b (.int .i64 0) c es.toList 0 hp hn W
      rw [Array.toList_push]
      have hf : ∀ D : Array Field, Instr.findNow (.struct D) (.agg #[.int .i64 a, .int .i64 b]) (es.toList ++ [⟨.agg #[.int .i64 a, .int .i64 b], .int .i64 0, c⟩]) 0 = none := fun D => by
        cases es.toList <;> simp [Instr.findNow, Instr.sameNow]
      simp [Instr.findKey, run_underlying Try.underlying121, hf, Result.andThen]
      simpa using this
    · exact ⟨⟨.agg #[.int .i64 a, .int .i64 b], .int .i64 0, c⟩, by simp, rfl⟩
  · have hsame : es.modify j (fun e => { e with key := .agg #[.int .i64 a, .int .i64 b] }) = es := by
      apply Array.ext'
      rw [Array.toList_modify, ChangeMaps.modify_eq_set _ _ _ _ (by simpa using h2)]
      have : ({ e with key := .agg #[.int .i64 a, .int .i64 b] } : MapEntry) = e := by rw [← h3]
      rw [this]
      exact WideElems.set_self _ _ _ (by simpa using h2)
    refine ⟨e.born, es, c, ?_, hok, .inr ⟨j, e, h1, h2, h3, hv⟩, e, Array.mem_toList_iff.2 (Array.mem_of_getElem? h2), rfl⟩
    simp [Instr.mapEntry, run_underlying Try.underlying112, MapKept.run_getObj_map hb, check121, h1, h2, h3, hv, stays121, hsame, MapKept.run_setObj_map _ hb, Result.andThen, setBlock, goInt]
theorem store_run {w : World} {m : Nat} {es : Array MapEntry} {c st : Nat} {x : Int} (hb : w.heap[m]? = some (.map es c)) (hok : mapOk es) (hs : ∃ e ∈ es.toList, e.born = st) :
    ∃ es2, (Instr.entryStore 112 (.map (some m)) ((.int .i64 (st : Int))) (.int .i64 x)).run Try.prog w = .ok () (setBlock w m (.map es2 c)) ∧ mapOk es2 := by
  obtain ⟨e, he, hst⟩ := hs
  cases hf : es.findIdx? (fun e => ((e.born : Nat) : Int) == ((st : Nat) : Int)) with
  | none =>
    rw [Array.findIdx?_eq_none_iff] at hf
    have := hf e (Array.mem_toList_iff.1 he)
    simp [hst] at this
  | some i =>
    refine ⟨es.modify i fun e => { e with val := .int .i64 x }, ?_, ?_⟩
    · simp [Instr.entryStore, MapKept.run_getObj_map hb, asInt, asIntOf, goInt, hf, MapKept.run_setObj_map _ hb, Result.andThen, setBlock]
    · intro y hy
      obtain ⟨j, hj⟩ := List.getElem?_of_mem hy
      rw [Array.getElem?_toList, Array.getElem?_modify] at hj
      by_cases e : i = j
      · rw [if_pos e] at hj
        cases hz : es[j]? with
        | none => rw [hz] at hj; simp at hj
        | some z =>
          rw [hz] at hj
          simp at hj
          subst hj
          exact ⟨(hok z (Array.mem_toList_iff.2 (Array.mem_of_getElem? hz))).1, x, rfl⟩
      · rw [if_neg e] at hj
        exact hok y (Array.mem_toList_iff.2 (Array.mem_of_getElem? hj))
end Go.Proofs.Ytgdbnioodimlfaa.Wk
