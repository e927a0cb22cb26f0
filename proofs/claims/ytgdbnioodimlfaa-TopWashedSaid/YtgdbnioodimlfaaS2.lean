/- Rows of integers and other small laws for the walk of TopWashed. Conditions stand in each theorem. -/
import Derived.Test.YtgdbnioodimlfaaSeq
import Derived.Test.YtgdbnioodimlfaaT1
import Derived.Test.YtgdbnioodimlfaaR3
import Derived.OwnWalk
namespace Go.Proofs.Ytgdbnioodimlfaa.Wk
open Go.RowKit Go.Proofs.YtgdbnioodimlfaaW.PrintWords Go.Proofs.YtgdbnioodimlfaaW.PrintLast Go.Proofs.YtgdbnioodimlfaaW.PrintMore Go.Proofs.Ytgdbnioodimlfaa.PTopWashed Go.Proofs.Ytgdbnioodimlfaa.Sq
attribute [local go_sem] max2_int min2_int max_two min_two max_three min_three max_four min_four
set_option linter.unusedVariables false
set_option linter.unusedSimpArgs false

theorem RefIn.below {w w1 : World} {A2 : Option Addr} {c2 : Nat} {kl : List S54} {A3 : Option Addr} {c3 : Nat} {kt : List S58} {A4 : Option Addr} {c4 : Nat} {kc : List S60} {A5 : Option Addr} {c5 : Nat} {kq : List S54} (h : RefIn w A2 c2 kl A3 c3 kt A4 c4 kc A5 c5 kq) (hb : Below w.heap.size w w1) : RefIn w1 A2 c2 kl A3 c3 kt A4 c4 kc A5 c5 kq := ⟨Kd.C_below h.r2 hb, h.m2, Kd.C_below h.r3 hb, h.m3, Kd.C_below h.r4 hb, h.m4, Kd.C_below h.r5 hb, h.m5⟩
def gl (xs : List (List Int)) (j : Nat) : List Int := xs.getD j []
theorem at_list {w : World} {A : Option Addr} {n : Nat} {xs : List (List Int)} (h : Kd.C (Kd.slice 3 (Kd.int .i64)) w A n xs) (i : Int) (h0 : 0 ≤ i) (h1 : i < n) : ∃ ad At ct, A = some ad ∧ w.cell? (ad.add i.toNat) = some (.slice At (gl xs i.toNat).length ct) ∧ (gl xs i.toNat).length ≤ ct ∧ Kd.C (Kd.int .i64) w At (gl xs i.toNat).length (gl xs i.toNat) := by
  obtain ⟨ad, c, e, _, hK, hc0⟩ := Kd.C_get h [] i h0 h1
  obtain ⟨At, ct, rfl, hle, hC⟩ := hK
  have hc : ∀ j u, ([_] : List Value)[j]? = some u → w.cell? (ad.add (i.toNat * 1 + j)) = some u := hc0
  have h2 := hc 0 _ rfl
  rw [Nat.mul_one, Nat.add_zero] at h2
  exact ⟨ad, At, ct, e, h2, hle, hC⟩
theorem gl_mem (xs : List (List Int)) (j : Nat) (hj : j < xs.length) : gl xs j ∈ xs := by
  unfold gl
  rw [List.getD_eq_getElem?_getD, List.getElem?_eq_getElem hj]
  exact List.getElem_mem hj
theorem at_ne {w : World} {g g' : Nat} {cs cs' : Array Value} {t t' : TypeId} (h : At w g cs t) (h' : At w g' cs' t') (hn : t ≠ t') : g ≠ g' := by
  rintro rfl
  have e := h.out.symm.trans h'.out
  injection e with e
  injection e with e1 e2
  exact hn e2
/-- What is left of a body behind its first n parts. -/
def nthTail : Nat → Option Code → Option Code
  | 0, c => c
  | n + 1, some (.seq _ d) => nthTail n (some d)
  | _ + 1, _ => none
theorem join2 {P : Prop} {Fx : Value → Value → World → Prop} {G : Value → Value → World → Prop} (h1 : (∀ a b w, Fx a b w → G a b w) → P) (h2 : ∀ a b w, Fx a b w → G a b w) : P := h1 h2
theorem join4 {P : Prop} {Fx : Value → Value → Value → Value → World → Prop} {G : Value → Value → Value → Value → World → Prop} (h1 : (∀ a b c d w, Fx a b c d w → G a b c d w) → P) (h2 : ∀ a b c d w, Fx a b c d w → G a b c d w) : P := h1 h2
def raw1 (f : Nat → Int) (n : Nat) : List Value := (List.range n).map fun i => .int .i64 (f i)
theorem raw1_succ (f : Nat → Int) (n : Nat) : raw1 f (n + 1) = raw1 f n ++ [.int .i64 (f n)] := by simp [raw1, List.range_succ]
theorem raw1_get (f : Nat → Int) (n j : Nat) (hj : j < n) : (raw1 f n)[j]? = some (.int .i64 (f j)) := by simp [raw1, hj]
/-- A row of integers that the call made, as its block. -/
theorem raw1_of_own {w : World} {base n : Nat} {v : Value} {f : Nat → Int} (h : w.ownsRow base 3 1 v n (raw1 f n)) (h0 : 0 < n) : ∃ g cap cur, v = .slice (some ⟨g, 0, none⟩) n cap ∧ n ≤ cap ∧ At w g cur 3 ∧ base ≤ g ∧ ∀ j, j < n → cur[j]? = some (.int .i64 (f j)) := by
  obtain ⟨h1, ⟨_, h2⟩ | ⟨g, cap, cur, rfl, h2, h3, h4, h5, h6, h7⟩⟩ := h
  · rw [h2] at h1; simp at h1; omega
  · exact ⟨g, cap, cur, rfl, h4, ⟨h3⟩, h2, fun j hj => take_get h7 j _ (raw1_get f n j hj)⟩
theorem C_of_raw1 {w : World} {g n : Nat} {cur : Array Value} {f : Nat → Int} (h : At w g cur 3) (hn : n ≤ 1000) (hc : ∀ j, j < n → cur[j]? = some (.int .i64 (f j))) : Kd.C (Kd.int .i64) w (some ⟨g, 0, none⟩) n ((List.range n).map f) := by
  have e : ((List.range n).map f).length = n := by simp
  have h2 := C_of_at h ((List.range n).map f) (by rw [e]; exact hn) (fun j x hx => by
    obtain ⟨hj, ex⟩ := List.getElem?_eq_some_iff.1 hx
    rw [e] at hj
    simp at ex
    rw [hc j hj, ex])
  rwa [e] at h2
theorem gi_range (f : Nat → Int) (n j : Nat) (hj : j < n) : gi ((List.range n).map f) j = f j := by simp [gi, hj]
theorem own_ne_lt {w : World} {base e size n g : Nat} {v : Value} {xs : List Value} (h : w.ownsRow base e size v n xs) (hg : g < base) : some g ≠ v.ownBlock := by
  intro e
  have := own_ge h _ e.symm
  omega
/-- Play, with the numbers of its slices apart from their lists. -/
theorem playOf_calls {A2 : Option Addr} {c2 : Nat} {A3 : Option Addr} {c3 : Nat} {A4 : Option Addr} {c4 : Nat} {cl : List S65} {ti : List S73} {cp : List S74} {A5 : Option Addr} {c5 : Nat} {qu : List S53} (e0 e1 e2 e3 hr gr tubs op clo : Int) (n0 : Nat) (gt : List Nat) (n6 n7 : Nat) (m : Nat → Int) (A6 : Option Addr) (c6 : Nat) (A7 : Option Addr) (c7 : Nat) (A8 : Option Addr) (c8 : Nat) (w : World) (H : FloIn w A2 c2 A3 c3 A4 c4 cl ti cp A5 c5 qu) (F : Flo e0 e1 e2 e3 hr gr cl ti cp tubs op clo qu)
    (hgl : glv ti cp tubs.toNat = n0 :: gt) (h6 : Kd.C (Kd.int .i64) w A6 n6 ((List.range n6).map fun _ => op)) (hf1 : n6 = (glv ti cp tubs.toNat).length)
    (h7 : Kd.C (Kd.int .i64) w A7 n7 ((List.range n7).map m)) (hm1 : n7 = qu.length) (hm2 : ∀ j, j < n7 → m j = (g53 qu j).f0) (hq : 1 ≤ qu.length) (h8 : Kd.C (Kd.int .i64) w A8 1 [0]) (hc8 : 1 ≤ c8) :
    Calls Try.prog 12 #[.agg #[.int .i64 hr, .int .i64 gr, .slice A2 cl.length c2, .slice A3 ti.length c3, .slice A4 cp.length c4, .int .i64 tubs, .int .i64 op, .int .i64 clo, .slice A5 qu.length c5], .agg #[.slice A6 n6 c6, .slice A7 n7 c7], .slice A8 1 c8] w fun e w' => ∃ v6 v7, e = .returned (.tuple #[v6, v7, .int .i64 0]) ∧ One w' w.heap.size v6 (n0 : Int) ∧ One w' w.heap.size v7 (op + m 0) ∧ Below w.heap.size w w' := by
  have l6 : ((List.range n6).map fun _ => op).length = n6 := by simp
  have l7 : ((List.range n7).map m).length = n7 := by simp
  have h := Play_calls (A2 := A2) (c2 := c2) (A3 := A3) (c3 := c3) (A4 := A4) (c4 := c4) (cl := cl) (ti := ti) (cp := cp) (A5 := A5) (c5 := c5) (qu := qu) e0 e1 e2 e3 hr gr tubs op clo n0 gt ((List.range n6).map fun _ => op) ((List.range n7).map m) A6 c6 A7 c7 A8 c8 w H F hgl (by rw [l6]; exact h6) (by rw [l6]; exact hf1) (fun j hj => by rw [l6] at hj; exact gi_range _ _ _ hj) (by rw [l7]; exact h7) (by rw [l7]; exact hm1) (fun j hj => by rw [l7] at hj; rw [gi_range _ _ _ hj]; exact hm2 j hj) hq h8 hc8
  rw [l6, l7, gi_range m n7 0 (by omega)] at h
  exact h

end Go.Proofs.Ytgdbnioodimlfaa.Wk

/- append of rows to an empty slice, and the rows of the house with one more ticket. Conditions stand in each theorem. -/
namespace Go.Proofs.Ytgdbnioodimlfaa.Wk
open Go.RowKit Go.Proofs.YtgdbnioodimlfaaW.PrintWords Go.Proofs.YtgdbnioodimlfaaW.PrintLast Go.Proofs.YtgdbnioodimlfaaW.PrintMore Go.Proofs.Ytgdbnioodimlfaa.PTopWashed Go.Proofs.Ytgdbnioodimlfaa.Sq
attribute [local go_sem] max2_int min2_int max_two min_two max_three min_three max_four min_four
set_option linter.unusedVariables false
set_option linter.unusedSimpArgs false
theorem raw_of_R58 {w : World} {base : Nat} {ok : Nat → Prop} {v : Value} {xs : List S58} (h : Kd.R k58 58 w base ok v xs) : w.ownsRow base 58 2 v xs.length (raw2 (fun i => (g58 xs i).f0) (fun i => (g58 xs i).f1) xs.length) := by
  obtain ⟨_, inner, hown, hr⟩ := h
  have e : inner = raw2 (fun i => (g58 xs i).f0) (fun i => (g58 xs i).f1) xs.length := by
    refine rows_eq 2 (by omega) hr.1 (raw2_len (fun i => (g58 xs i).f0) (fun i => (g58 xs i).f1) _) fun j hj => ?_
    have hp : xs[j]? = some xs[j] := List.getElem?_eq_getElem hj
    have h1 := k58_openM (hr.2 j _ hp)
    intro i hi
    have h2 : ((inner.drop (j * 2)).take 2)[i]? = inner[j * 2 + i]? := by rw [List.getElem?_take_of_lt hi, List.getElem?_drop]
    rw [← h2]
    rw [show (inner.drop (j * 2)).take 2 = _ from h1]
    have e3 : g58 xs j = xs[j] := by unfold g58; rw [List.getD_eq_getElem?_getD, hp]; rfl
    match i, hi with
    | 0, _ => rw [raw2_get (fun i => (g58 xs i).f0) (fun i => (g58 xs i).f1) _ j 0 hj _ rfl, e3]; rfl
    | 1, _ => rw [raw2_get (fun i => (g58 xs i).f0) (fun i => (g58 xs i).f1) _ j 1 hj _ rfl, e3]; rfl
  rw [← e]
  exact hown
theorem raw_of_R60 {w : World} {base : Nat} {ok : Nat → Prop} {v : Value} {xs : List S60} (h : Kd.R k60 60 w base ok v xs) : w.ownsRow base 60 3 v xs.length (raw3 (fun i => (g60 xs i).f0) (fun i => (g60 xs i).f1) (fun i => (g60 xs i).f2) xs.length) := by
  obtain ⟨_, inner, hown, hr⟩ := h
  have e : inner = raw3 (fun i => (g60 xs i).f0) (fun i => (g60 xs i).f1) (fun i => (g60 xs i).f2) xs.length := by
    refine rows_eq 3 (by omega) hr.1 (raw3_len (fun i => (g60 xs i).f0) (fun i => (g60 xs i).f1) (fun i => (g60 xs i).f2) _) fun j hj => ?_
    have hp : xs[j]? = some xs[j] := List.getElem?_eq_getElem hj
    have h1 := k60_openM (hr.2 j _ hp)
    intro i hi
    have h2 : ((inner.drop (j * 3)).take 3)[i]? = inner[j * 3 + i]? := by rw [List.getElem?_take_of_lt hi, List.getElem?_drop]
    rw [← h2]
    rw [show (inner.drop (j * 3)).take 3 = _ from h1]
    have e3 : g60 xs j = xs[j] := by unfold g60; rw [List.getD_eq_getElem?_getD, hp]; rfl
    match i, hi with
    | 0, _ => rw [raw3_get (fun i => (g60 xs i).f0) (fun i => (g60 xs i).f1) (fun i => (g60 xs i).f2) _ j 0 hj _ rfl, e3]; rfl
    | 1, _ => rw [raw3_get (fun i => (g60 xs i).f0) (fun i => (g60 xs i).f1) (fun i => (g60 xs i).f2) _ j 1 hj _ rfl, e3]; rfl
    | 2, _ => rw [raw3_get (fun i => (g60 xs i).f0) (fun i => (g60 xs i).f1) (fun i => (g60 xs i).f2) _ j 2 hj _ rfl, e3]; rfl
  rw [← e]
  exact hown
theorem info58 : (Try.prog.info? 58).map (fun i => (i.zero, i.size, i.bytes)) = some (some (.agg #[.int .i64 0, .int .i64 0]), 2, 16) := by kernel_rfl
theorem info58' : ∃ i, Try.prog.info? 58 = some i ∧ i.zero = some (.agg #[.int .i64 0, .int .i64 0]) ∧ i.size = 2 ∧ i.bytes = 16 := by
  have h := info58
  cases e : Try.prog.info? 58 with
  | none => rw [e] at h; cases h
  | some i =>
    rw [e] at h
    simp at h
    exact ⟨i, rfl, h.1, h.2.1, h.2.2⟩
theorem info60 : (Try.prog.info? 60).map (fun i => (i.zero, i.size, i.bytes)) = some (some (.agg #[.int .i64 0, .int .i64 0, .int .i64 0]), 3, 24) := by kernel_rfl
theorem info60' : ∃ i, Try.prog.info? 60 = some i ∧ i.zero = some (.agg #[.int .i64 0, .int .i64 0, .int .i64 0]) ∧ i.size = 3 ∧ i.bytes = 24 := by
  have h := info60
  cases e : Try.prog.info? 60 with
  | none => rw [e] at h; cases h
  | some i =>
    rw [e] at h
    simp at h
    exact ⟨i, rfl, h.1, h.2.1, h.2.2⟩
theorem append_copy58 {w : World} {ops : Array Oper} {rest : List Oper} {o : Oper} {a : Act} {Q : Exit → Act → World → Prop} (hgd : o.guard = none) (s x : Operand) (ho : o.op = .call { callee := .builtin .append, args := #[s, x], argTypes := #[23, 23] }) (g : Nat) (hs : a.eval s = .slice (some ⟨g, 0, none⟩) 0 0) (hA : At w g #[] 58)
    (A : Option Addr) (n c : Nat) (xs : List S58) (hx : a.eval x = .slice A n c) (hC : Kd.C k58 w A n xs) (hl : n ≤ 1000) {B : Nat} {w0 : World} (hB : Below B w0 w) (hBg : B ≤ g)
    (h : ∀ v w', w'.ownsRow B 58 2 v n (raw2 (fun i => (g58 xs i).f0) (fun i => (g58 xs i).f1) n) → Below B w0 w' → w.grownBy w' (some g) → wpList Try.prog ops Q rest (a.put o.dst v) w') : wpList Try.prog ops Q (o :: rest) a w := by
  have hn : xs.length = n := hC.1
  have hR : Kd.R k58 58 w B (fun _ => True) (.slice (some ⟨g, 0, none⟩) 0 0) [] := ⟨fun _ _ => trivial, [], ⟨rfl, .inr ⟨g, 0, #[], rfl, hBg, hA.out, Nat.le_refl _, Nat.zero_le _, rfl, rfl⟩⟩, Reps.none _ _⟩
  refine Kd.R_append_rows k58 (w0 := w0) B hgd s x 23 58 (.agg #[.int .i64 0, .int .i64 0]) 16 ho Try.underlying23 info58 rfl (by decide) (by omega) _ [] xs A n c (fun _ => True) (fun _ => False) hs hx hR hC (fun y cs hy => by obtain rfl := k58_open hy; exact k58_mkM _ _ _ _) (fun _ hk => hk.elim) (fun _ _ => trivial) hB (by have := hA.lt; omega) (by simp; omega) ?_
  intro v1 w1 hr hb hg _
  refine h v1 w1 ?_ hb hg
  have h2 := raw_of_R58 hr
  rw [List.nil_append, hn] at h2
  exact h2
theorem append_copy60 {w : World} {ops : Array Oper} {rest : List Oper} {o : Oper} {a : Act} {Q : Exit → Act → World → Prop} (hgd : o.guard = none) (s x : Operand) (ho : o.op = .call { callee := .builtin .append, args := #[s, x], argTypes := #[24, 24] }) (g : Nat) (hs : a.eval s = .slice (some ⟨g, 0, none⟩) 0 0) (hA : At w g #[] 60)
    (A : Option Addr) (n c : Nat) (xs : List S60) (hx : a.eval x = .slice A n c) (hC : Kd.C k60 w A n xs) (hl : n ≤ 1000) {B : Nat} {w0 : World} (hB : Below B w0 w) (hBg : B ≤ g)
    (h : ∀ v w', w'.ownsRow B 60 3 v n (raw3 (fun i => (g60 xs i).f0) (fun i => (g60 xs i).f1) (fun i => (g60 xs i).f2) n) → Below B w0 w' → w.grownBy w' (some g) → wpList Try.prog ops Q rest (a.put o.dst v) w') : wpList Try.prog ops Q (o :: rest) a w := by
  have hn : xs.length = n := hC.1
  have hR : Kd.R k60 60 w B (fun _ => True) (.slice (some ⟨g, 0, none⟩) 0 0) [] := ⟨fun _ _ => trivial, [], ⟨rfl, .inr ⟨g, 0, #[], rfl, hBg, hA.out, Nat.le_refl _, Nat.zero_le _, rfl, rfl⟩⟩, Reps.none _ _⟩
  refine Kd.R_append_rows k60 (w0 := w0) B hgd s x 24 60 (.agg #[.int .i64 0, .int .i64 0, .int .i64 0]) 24 ho Try.underlying24 info60 rfl (by decide) (by omega) _ [] xs A n c (fun _ => True) (fun _ => False) hs hx hR hC (fun y cs hy => by obtain rfl := k60_open hy; exact k60_mkM _ _ _ _) (fun _ hk => hk.elim) (fun _ _ => trivial) hB (by have := hA.lt; omega) (by simp; omega) ?_
  intro v1 w1 hr hb hg _
  refine h v1 w1 ?_ hb hg
  have h2 := raw_of_R60 hr
  rw [List.nil_append, hn] at h2
  exact h2
/-- Fault of posserref01, with the numbers of its slices apart from their lists. -/
theorem faultOf_calls (k : Nat) (hr gr : Int) (n2 n3 n4 : Nat) (A2 : Option Addr) (c2 : Nat) (kl : List S54) (A3 : Option Addr) (c3 : Nat) (kt : List S58) (A4 : Option Addr) (c4 : Nat) (kc : List S60) (r : Int) (w : World) (e2 : kl.length = n2) (e3 : kt.length = n3) (e4 : kc.length = n4) (h2 : Kd.C k54 w A2 n2 kl) (m2 : n2 ≤ c2) (h3 : Kd.C k58 w A3 n3 kt) (m3 : n3 ≤ c3) (h4 : Kd.C k60 w A4 n4 kc) (m4 : n4 ≤ c4) (h : posserref01_Fault.f k hr gr kl kt kc = some r) :
    Calls Try.prog 13 #[.agg #[.int .i64 hr, .int .i64 gr, .slice A2 n2 c2, .slice A3 n3 c3, .slice A4 n4 c4]] w fun e w' => e = .returned (.int .i64 r) ∧ Below w.heap.size w w' := by
  subst e2
  subst e3
  subst e4
  refine (posserref01_Fault.calls k hr gr A2 c2 kl A3 c3 kt A4 c4 kc r w h2 m2 h3 m3 h4 m4 h).mono ?_
  rintro e w' ⟨rfl, hb⟩
  exact ⟨rfl, hb⟩
/-- A house of the reference in memory. -/
structure HouIn (w : World) (n2 n3 n4 : Nat) (A2 : Option Addr) (c2 : Nat) (kl : List S54) (A3 : Option Addr) (c3 : Nat) (kt : List S58) (A4 : Option Addr) (c4 : Nat) (kc : List S60) : Prop where
  e2 : kl.length = n2
  e3 : kt.length = n3
  e4 : kc.length = n4
  r2 : Kd.C k54 w A2 n2 kl
  m2 : n2 ≤ c2
  r3 : Kd.C k58 w A3 n3 kt
  m3 : n3 ≤ c3
  r4 : Kd.C k60 w A4 n4 kc
  m4 : n4 ≤ c4
theorem HouIn.below {w w1 : World} {n2 n3 n4 : Nat} {A2 : Option Addr} {c2 : Nat} {kl : List S54} {A3 : Option Addr} {c3 : Nat} {kt : List S58} {A4 : Option Addr} {c4 : Nat} {kc : List S60} (h : HouIn w n2 n3 n4 A2 c2 kl A3 c3 kt A4 c4 kc) (hb : Below w.heap.size w w1) : HouIn w1 n2 n3 n4 A2 c2 kl A3 c3 kt A4 c4 kc := ⟨h.e2, h.e3, h.e4, Kd.C_below h.r2 hb, h.m2, Kd.C_below h.r3 hb, h.m3, Kd.C_below h.r4 hb, h.m4⟩
theorem raw2_congr {f g f' g' : Nat → Int} (n : Nat) (h : ∀ j, j < n → f j = f' j ∧ g j = g' j) : raw2 f g n = raw2 f' g' n := by
  induction n with
  | zero => rfl
  | succ n ih => rw [raw2_succ, raw2_succ, ih (fun j hj => h j (by omega)), (h n (by omega)).1, (h n (by omega)).2]
theorem raw3_congr {f g i f' g' i' : Nat → Int} (n : Nat) (h : ∀ j, j < n → f j = f' j ∧ g j = g' j ∧ i j = i' j) : raw3 f g i n = raw3 f' g' i' n := by
  induction n with
  | zero => rfl
  | succ n ih => rw [raw3_succ, raw3_succ, ih (fun j hj => h j (by omega)), (h n (by omega)).1, (h n (by omega)).2.1, (h n (by omega)).2.2]
theorem raw_ytk (kt : List S58) (n0 : Int) : raw2 (fun i => (g58 (ytk kt n0) i).f0) (fun i => (g58 (ytk kt n0) i).f1) (kt.length + 1) = raw2 (fun i => (g58 kt i).f0) (fun i => (g58 kt i).f1) kt.length ++ [.int .i64 n0, .int .i64 9] := by
  have h1 : g58 (ytk kt n0) kt.length = ⟨n0, 9⟩ := by
    rw [ytk, g58_ge]
    rfl
  rw [raw2_succ, h1]
  congr 1
  exact raw2_congr _ fun j hj => by rw [ytk, g58_lt _ _ _ hj]; exact ⟨rfl, rfl⟩
theorem raw_ycp (kt : List S58) (kc : List S60) (k b e : Int) : raw3 (fun i => (g60 (ycp kt kc k b e) i).f0) (fun i => (g60 (ycp kt kc k b e) i).f1) (fun i => (g60 (ycp kt kc k b e) i).f2) (kc.length + 2) = raw3 (fun i => (g60 kc i).f0) (fun i => (g60 kc i).f1) (fun i => (g60 kc i).f2) kc.length ++ [.int .i64 (kt.length : Int), .int .i64 k, .int .i64 b, .int .i64 (kt.length : Int), .int .i64 k, .int .i64 e] := by
  have h1 : g60 (ycp kt kc k b e) kc.length = ⟨(kt.length : Int), k, b⟩ := by
    have h := g60_ge kc [⟨(kt.length : Int), k, b⟩, ⟨(kt.length : Int), k, e⟩] 0
    rw [Nat.add_zero] at h
    rw [ycp, h]
    rfl
  have h2 : g60 (ycp kt kc k b e) (kc.length + 1) = ⟨(kt.length : Int), k, e⟩ := by
    rw [ycp, g60_ge]
    rfl
  rw [raw3_succ, raw3_succ, h1, h2, List.append_assoc]
  congr 1
  exact raw3_congr _ fun j hj => by rw [ycp, g60_lt _ _ _ hj]; exact ⟨rfl, rfl, rfl⟩

end Go.Proofs.Ytgdbnioodimlfaa.Wk
