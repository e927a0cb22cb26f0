/- What is left of TopWashed from its house with one more ticket on, up to the ticket. Conditions stand in each theorem. -/
import Derived.Test.YtgdbnioodimlfaaSeq
import Derived.Test.YtgdbnioodimlfaaT4
namespace Go.Proofs.Ytgdbnioodimlfaa.Wk
open Go.RowKit Go.Proofs.YtgdbnioodimlfaaW.PrintWords Go.Proofs.YtgdbnioodimlfaaW.PrintLast Go.Proofs.YtgdbnioodimlfaaW.PrintMore Go.Proofs.Ytgdbnioodimlfaa.PTopWashed Go.Proofs.Ytgdbnioodimlfaa.Sq
attribute [local go_sem] max2_int min2_int max_two min_two max_three min_three max_four min_four
set_option linter.unusedVariables false
set_option linter.unusedSimpArgs false
set_option maxRecDepth 20000 in
set_option maxHeartbeats 4000000 in
theorem tail29 {u0 u1 u2 u3 u4 u5 u6 u7 u8 u10 u11 u12 u13 u14 u15 u16 u19 u24 u25 u26 u27 u28 u29 u30 u31 u32 u33 u34 u35 u36 u37 u38 u39 u40 u41 u42 u43 u44 u45 u46 u47 u48 u49 u50 u51 u52 u53 u54 u55 u56 u57 u58 u59 u60 u61 u62 u63 u64 u65 u66 u67 u68 u69 u70 u71 u72 u73 u74 u75 u76 u77 u78 u79 u80 u81 u82 u83 u84 u85 u86 u87 u88 u89 u90 u91 u92 u93 u94 u95 u96 u97 u98 u99 u100 u101 u102 u103 u104 u105 u106 u107 u108 u109 u110 u111 u112 u113 u114 u115 u116 u117 u118 u119 u120 u121 u122 u123 u124 u125 u126 u127 u128 u129 u130 u131 u132 u133 u134 u135 u136 u137 u138 u139 u140 u141 u142 u143 u144 u145 u146 u147 u148 u149 u150 u151 u152 u153 u154 u155 u156 u157 u158 u159 u160 u161 u162 u163 u164 u165 u166 u167 u168 u169 u170 u171 u172 u173 u174 u175 u176 u177 u178 u179 u180 u181 u182 u183 u184 u185 u186 u187 u188 u189 u190 u191 u192 u193 u194 u195 u196 u197 u198 u199 u200 u201 u202 u203 u204 u205 u206 u207 u208 u209 u210 u211 u212 u213 u214 u215 u216 u217 u218 u219 u220 u221 u222 u223 u224 u225 u226 u227 u228 u229 u230 u231 u232 u233 u234 u235 u236 u237 u238 u239 u240 u241 u242 u243 u244 u245 u246 u247 u248 u249 u250 u251 u252 u253 u254 u255 u256 u257 u258 u259 u260 u261 u262 u263 u264 u265 u266 u267 u268 u269 u270 u271 u272 u273 u274 u275 u276 u277 u278 u279 u280 u281 u282 u283 u284 u285 u286 u287 u288 u289 u290 u291 u292 u293 u294 u295 u296 u297 u298 u299 u300 : Value} {w wx : World} {hr gr tubs op clo : Int} {kl : List S54} {A3 : Option Addr} {c3 : Nat} {kt : List S58} {A4 : Option Addr} {c4 : Nat} {kc : List S60} {A5 : Option Addr} {c5 : Nat} {kq : List S54} {K2 : Option Addr} {d2 : Nat} {t : List Int} {all : List (List Int)} {g6 k6 g7 k7 k : Nat} {lg dn bb ee : Int} {n0 : Nat} (kk : Nat) (hkk : 100 < kk) (V : Vfl hr gr kl kt kc tubs op clo kq all) (IT : IsTru kl kc t) (OP : ∀ i, i < kc.length → tr t kc i ≤ op) (hop : opn (kt.map m73) (kc.map m74) (n0 : Int) = false) (hn0 : n0 < 4) (hlg : 0 ≤ lg ∧ lg ≤ 240) (hdn : op + lg = dn) (hk : k < t.length) (hbb : op + gi t k = bb) (hee : dn + gi t k = ee) {gx : Nat} (HB : Below w.heap.size w wx) (H3 : At wx gx #[.int .i64 hr, .int .i64 gr, .slice K2 t.length d2, .slice A3 kt.length c3, .slice A4 kc.length c4, .int .i64 tubs, .int .i64 op, .int .i64 clo, .slice A5 kq.length c5] 28) (HJ : RefIn wx K2 d2 (kll t) A3 c3 kt A4 c4 kc A5 c5 kq) (H6 : wx.cell? ⟨g6, 0, none⟩ = some (.int .i64 (n0 : Int))) (H7 : wx.cell? ⟨g7, 0, none⟩ = some (.int .i64 dn)) (cd : Code) (hcd : nthTail 16 Try.f3.body = some cd) : Code.wp Try.prog cd (bodyPost Try.prog Try.f3 fun e w' => e = .returned (.bool true) ∧ Below w.heap.size w w') ⟨#[u0, u1, u2, u3, u4, u5, u6, u7, u8, .pointer (some ⟨gx, 0, none⟩), u10, u11, u12, u13, u14, u15, u16, .slice (some ⟨g6, 0, none⟩) 1 k6, .slice (some ⟨g7, 0, none⟩) 1 k7, u19, .int .i64 lg, .int .i64 (k : Int), .int .i64 bb, .int .i64 ee, u24, u25, u26, u27, u28, u29, u30, u31, u32, u33, u34, u35, u36, u37, u38, u39, u40, u41, u42, u43, u44, u45, u46, u47, u48, u49, u50, u51, u52, u53, u54, u55, u56, u57, u58, u59, u60, u61, u62, u63, u64, u65, u66, u67, u68, u69, u70, u71, u72, u73, u74, u75, u76, u77, u78, u79, u80, u81, u82, u83, u84, u85, u86, u87, u88, u89, u90, u91, u92, u93, u94, u95, u96, u97, u98, u99, u100, u101, u102, u103, u104, u105, u106, u107, u108, u109, u110, u111, u112, u113, u114, u115, u116, u117, u118, u119, u120, u121, u122, u123, u124, u125, u126, u127, u128, u129, u130, u131, u132, u133, u134, u135, u136, u137, u138, u139, u140, u141, u142, u143, u144, u145, u146, u147, u148, u149, u150, u151, u152, u153, u154, u155, u156, u157, u158, u159, u160, u161, u162, u163, u164, u165, u166, u167, u168, u169, u170, u171, u172, u173, u174, u175, u176, u177, u178, u179, u180, u181, u182, u183, u184, u185, u186, u187, u188, u189, u190, u191, u192, u193, u194, u195, u196, u197, u198, u199, u200, u201, u202, u203, u204, u205, u206, u207, u208, u209, u210, u211, u212, u213, u214, u215, u216, u217, u218, u219, u220, u221, u222, u223, u224, u225, u226, u227, u228, u229, u230, u231, u232, u233, u234, u235, u236, u237, u238, u239, u240, u241, u242, u243, u244, u245, u246, u247, u248, u249, u250, u251, u252, u253, u254, u255, u256, u257, u258, u259, u260, u261, u262, u263, u264, u265, u266, u267, u268, u269, u270, u271, u272, u273, u274, u275, u276, u277, u278, u279, u280, u281, u282, u283, u284, u285, u286, u287, u288, u289, u290, u291, u292, u293, u294, u295, u296, u297, u298, u299, u300], []⟩ wx := by
  obtain rfl : _ = cd := Option.some.inj ((show nthTail 16 Try.f3.body = some _ from rfl).symm.trans hcd)
  clear hcd
  have HPL := Aside0.mk (And.intro hkk (And.intro V (And.intro IT (And.intro OP (And.intro hop (And.intro hn0 (And.intro hlg (And.intro hdn (And.intro hk (And.intro hbb hee))))))))))
  clear hkk V IT OP hop hn0 hlg hdn hk hbb hee

  replace H3 := Aside0.mk H3
  replace HJ := Aside0.mk HJ
  replace H6 := Aside0.mk H6
  replace H7 := Aside0.mk H7
  have HBW := Aside0.mk HB
  clear HB
  have b3 := H3.out.cl
  go_upto_region 30 with fail
  clear b3
  refine wp_new1 fun wy BY HB HZ3 => ?_
  have HY := Aside0.mk BY
  have bY := BY.cl
  go_upto_region 31 with fail
  clear bY BY HZ3
  have HN := Aside0.mk (show kt.length ≤ 1000 from by have := HPL.out.2.1.H.n3; omega)
  apply join4 (Fx := fun _ v v1 v2 w' => At w' wx.heap.size #[.int .i64 hr, .int .i64 gr, .slice K2 t.length d2, v2, .slice A4 kc.length c4] 26 ∧ w'.ownsRow wx.heap.size 58 2 v2 (kt.length + 1) (raw2 (fun i => (g58 kt i).f0) (fun i => (g58 kt i).f1) kt.length ++ [.int .i64 (n0 : Int), .int .i64 9]) ∧ Below wx.heap.size wx w')
  · intro CONT
    refine region_tree (Tree.fork [(1, 0), (2, 0), (4, 0), (5, 0), (6, 0), (7, 0)] 0 8 (Tree.fork [] 3 8 (Tree.seg [(8, 1), (9, 1), (10, 0), (11, 2)]) (Tree.seg [(3, 1), (9, 1), (10, 0), (11, 2)])) (Tree.seg [(0, 1), (3, 1), (9, 1), (10, 0), (11, 2)])) [11] (by kernel_rfl) rfl (by kernel_rfl) (by intro _ _ d _ _ h; cases d <;> exact h) ?_
    refine tree_fork ?_
    repeat (first | (refine seq_off (a' := ?_) rfl rfl ?_ ?_; rotate_left; (· simp only [List.getElem_toArray, List.getElem_cons_succ, List.getElem_cons_zero, Act.put, List.setIfInBounds_toArray, List.set_cons_zero, List.set_cons_succ, i64_w, i32_w]; rfl)) | (refine seq_read (v := ?_) (a' := ?_) rfl rfl (fun w' hS => ?_) ?_ ?_; rotate_left 2; (· have bY := (HY.out.below hS).cl; have h6 := cell_b (below_step HB.out hS) H6.out; go_simp; try with_reducible rfl); (· simp only [List.getElem_toArray, List.getElem_cons_succ, List.getElem_cons_zero, Act.put, List.setIfInBounds_toArray, List.set_cons_zero, List.set_cons_succ, i64_w, i32_w]; rfl)))
    refine seq_done ?_
    refine And.intro ?_ ?_
    all_goals refine ⟨_, rfl, fun hS => ?_⟩
    · simp only [List.getElem_toArray, List.getElem_cons_succ, List.getElem_cons_zero]
      go_wp2
      refine ⟨below_alloc hS _, tree_at1 (g := wy.heap.size) (cs := #[]) (t := 58) (below_alloc hS _) (by first | exact At.new wy.drew _ _ | exact (At.new wy _ _).drew) fun w4 hS4 hA4 => ?_⟩
      clear hS
      refine tree_fork ?_
      refine seq_done ?_
      refine And.intro ?_ ?_
      all_goals refine ⟨_, rfl, fun _ => ?_⟩
      · simp only [List.getElem_toArray, List.getElem_cons_succ, List.getElem_cons_zero]
        refine append_copy58 rfl (.tmp 190) (.tmp 192) rfl wy.heap.size rfl hA4 A3 kt.length c3 kt rfl (Kd.C_below HJ.out.r3 (below_step HB.out hS4)) HN.out hS4 (Nat.le_refl _) ?_
        intro v w5 hO5 hS5 hg5
        refine ⟨hS5, tree_seg ?_⟩
        refine seq_do rfl (fun _ => ?_)
        simp only [List.getElem_toArray, List.getElem_cons_succ, List.getElem_cons_zero]
        go_wp2
        refine ⟨below_alloc hS5 _, seq_at2 (g := w5.heap.size) (cs := #[.int .i64 (n0 : Int), .int .i64 9]) (t := 58) (below_alloc hS5 _) (below_alloc (Below.refl w5.heap.size w5) _) (At.new w5 _ _) fun w6 hS6 hb6 hA6 => ?_⟩
        have hO6 := own_below hO5 hb6
        refine seq_do rfl (fun _ => ?_)
        simp only [List.getElem_toArray, List.getElem_cons_succ, List.getElem_cons_zero]
        obtain ⟨ie, hi1, hi2, hi3, hi4⟩ := info58'
        refine wpList_append_own _ rfl (.tmp 193) (.tmp 198) 23 rfl wy.heap.size 58 ie _ 2 16 Try.underlying23 hi1 hi2 hi3 hi4 rfl (by omega) v kt.length _ rfl hO6 ⟨w5.heap.size, 0, none⟩ 1 1 [.int .i64 (n0 : Int), .int .i64 9] rfl rfl ?news (by simp [Value.oneCell']) (by have := HN.out; unfold maxLen; omega) (by have := HN.out; omega) hS6.size ?_
        case news =>
          intro j u hj
          match j, hj with
          | 0, hj => simp at hj; subst hj; simp [Addr.add, hA6.cl]
          | 1, hj => simp at hj; subst hj; simp [Addr.add, hA6.cl]
        intro v2 w8 hown hgr hx8
        clear hx8
        obtain ⟨V3, k3, hv⟩ := own_form hown
        subst hv
        have hS8 := pw_below_grown hS6 _ hS6.size hgr (own_ge hO6)
        refine ⟨hS8, ?_⟩
        repeat (first | (refine seq_off (a' := ?_) rfl rfl ?_ ?_; rotate_left; (· simp only [List.getElem_toArray, List.getElem_cons_succ, List.getElem_cons_zero, Act.put, List.setIfInBounds_toArray, List.set_cons_zero, List.set_cons_succ, i64_w, i32_w]; rfl)) | (refine seq_read (v := ?_) (a' := ?_) rfl rfl (fun w' hS => ?_) ?_ ?_; rotate_left 2; (· have bY := (HY.out.below hS).cl; have h6 := cell_b (below_step HB.out hS) H6.out; go_simp; try with_reducible rfl); (· simp only [List.getElem_toArray, List.getElem_cons_succ, List.getElem_cons_zero, Act.put, List.setIfInBounds_toArray, List.set_cons_zero, List.set_cons_succ, i64_w, i32_w]; rfl)))
        refine seq_last rfl ?_
        simp only [List.getElem_toArray, List.getElem_cons_succ, List.getElem_cons_zero]
        have HY8 := HY.out.below hS8
        have bY := HY8.cl
        have fY := HY8.fr
        go_wp2
        have E2 : At (w8.setCell ⟨wx.heap.size, 3, none⟩ (.slice V3 (kt.length + 1) k3)) wx.heap.size #[.int .i64 hr, .int .i64 gr, .slice K2 t.length d2, .slice V3 (kt.length + 1) k3, .slice A4 kc.length c4] 26 := by have := HY8.set 3 (.slice V3 (kt.length + 1) k3); simpa using this
        have F2 := own_set (own_base hown HB.out.size) (own_ne_at hown HY8 (by decide)) 3 (.slice V3 (kt.length + 1) k3)
        have G2 := (below_then HB.out HB.out.size hS8).setCell (p := ⟨wx.heap.size, 3, none⟩) (Nat.le_refl _) (.slice V3 (kt.length + 1) k3)
        generalize w8.setCell ⟨wx.heap.size, 3, none⟩ (.slice V3 (kt.length + 1) k3) = w9 at E2 F2 G2 ⊢
        refine seq_done ?_
        generalize (.slice V3 (kt.length + 1) k3 : Value) = v2 at E2 F2 ⊢
        generalize (.slice (some ⟨wy.heap.size, 0, none⟩) 0 0 : Value) = z0
        generalize (.slice (some ⟨w5.heap.size, 0, none⟩) 1 1 : Value) = z1
        exact CONT z0 v z1 v2 w9 ⟨E2, F2, G2⟩
      · simp only [List.getElem_toArray, List.getElem_cons_succ, List.getElem_cons_zero]
        go_wp2
        refine ⟨below_alloc hS4 _, tree_at2 (g := w4.heap.size) (cs := #[.int .i64 (n0 : Int), .int .i64 9]) (t := 58) (below_alloc hS4 _) (below_alloc (Below.refl w4.heap.size w4) _) (At.new w4 _ _) fun w5 hS5 hb5 hA5 => ?_⟩
        have hA4' := hA4.below hb5
        have hlt4 := hA4.lt
        refine tree_seg ?_
        refine seq_do rfl (fun _ => ?_)
        simp only [List.getElem_toArray, List.getElem_cons_succ, List.getElem_cons_zero]
        refine append_copy58 rfl (.tmp 190) (.tmp 192) rfl wy.heap.size rfl hA4' A3 kt.length c3 kt rfl (Kd.C_below HJ.out.r3 (below_step HB.out hS5)) HN.out hS5 (Nat.le_refl _) ?_
        intro v w6 hO6 hS6 hg6
        refine ⟨hS6, ?_⟩
        have hA6 := at_grown hA5 hg6 (by intro e; injection e with e; omega)
        refine seq_do rfl (fun _ => ?_)
        simp only [List.getElem_toArray, List.getElem_cons_succ, List.getElem_cons_zero]
        obtain ⟨ie, hi1, hi2, hi3, hi4⟩ := info58'
        refine wpList_append_own _ rfl (.tmp 193) (.tmp 198) 23 rfl wy.heap.size 58 ie _ 2 16 Try.underlying23 hi1 hi2 hi3 hi4 rfl (by omega) v kt.length _ rfl hO6 ⟨w4.heap.size, 0, none⟩ 1 1 [.int .i64 (n0 : Int), .int .i64 9] rfl rfl ?news (by simp [Value.oneCell']) (by have := HN.out; unfold maxLen; omega) (by have := HN.out; omega) hS6.size ?_
        case news =>
          intro j u hj
          match j, hj with
          | 0, hj => simp at hj; subst hj; simp [Addr.add, hA6.cl]
          | 1, hj => simp at hj; subst hj; simp [Addr.add, hA6.cl]
        intro v2 w8 hown hgr hx8
        clear hx8
        obtain ⟨V3, k3, hv⟩ := own_form hown
        subst hv
        have hS8 := pw_below_grown hS6 _ hS6.size hgr (own_ge hO6)
        refine ⟨hS8, ?_⟩
        repeat (first | (refine seq_off (a' := ?_) rfl rfl ?_ ?_; rotate_left; (· simp only [List.getElem_toArray, List.getElem_cons_succ, List.getElem_cons_zero, Act.put, List.setIfInBounds_toArray, List.set_cons_zero, List.set_cons_succ, i64_w, i32_w]; rfl)) | (refine seq_read (v := ?_) (a' := ?_) rfl rfl (fun w' hS => ?_) ?_ ?_; rotate_left 2; (· have bY := (HY.out.below hS).cl; have h6 := cell_b (below_step HB.out hS) H6.out; go_simp; try with_reducible rfl); (· simp only [List.getElem_toArray, List.getElem_cons_succ, List.getElem_cons_zero, Act.put, List.setIfInBounds_toArray, List.set_cons_zero, List.set_cons_succ, i64_w, i32_w]; rfl)))
        refine seq_last rfl ?_
        simp only [List.getElem_toArray, List.getElem_cons_succ, List.getElem_cons_zero]
        have HY8 := HY.out.below hS8
        have bY := HY8.cl
        have fY := HY8.fr
        go_wp2
        have E2 : At (w8.setCell ⟨wx.heap.size, 3, none⟩ (.slice V3 (kt.length + 1) k3)) wx.heap.size #[.int .i64 hr, .int .i64 gr, .slice K2 t.length d2, .slice V3 (kt.length + 1) k3, .slice A4 kc.length c4] 26 := by have := HY8.set 3 (.slice V3 (kt.length + 1) k3); simpa using this
        have F2 := own_set (own_base hown HB.out.size) (own_ne_at hown HY8 (by decide)) 3 (.slice V3 (kt.length + 1) k3)
        have G2 := (below_then HB.out HB.out.size hS8).setCell (p := ⟨wx.heap.size, 3, none⟩) (Nat.le_refl _) (.slice V3 (kt.length + 1) k3)
        generalize w8.setCell ⟨wx.heap.size, 3, none⟩ (.slice V3 (kt.length + 1) k3) = w9 at E2 F2 G2 ⊢
        refine seq_done ?_
        generalize (.slice V3 (kt.length + 1) k3 : Value) = v2 at E2 F2 ⊢
        generalize (.slice (some ⟨wy.heap.size, 0, none⟩) 0 0 : Value) = z0
        generalize (.slice (some ⟨w4.heap.size, 0, none⟩) 1 1 : Value) = z1
        exact CONT z0 v z1 v2 w9 ⟨E2, F2, G2⟩
    · simp only [List.getElem_toArray, List.getElem_cons_succ, List.getElem_cons_zero]
      go_wp2
      refine ⟨below_alloc hS _, tree_at1 (g := wy.heap.size) (cs := #[.int .i64 (n0 : Int), .int .i64 9]) (t := 58) (below_alloc hS _) (by first | exact At.new wy.drew _ _ | exact (At.new wy _ _).drew) fun w4 hS4 hA4 => ?_⟩
      clear hS
      have hlt4 := hA4.lt
      refine tree_seg ?_
      refine seq_do rfl (fun _ => ?_)
      simp only [List.getElem_toArray, List.getElem_cons_succ, List.getElem_cons_zero]
      go_wp2
      refine ⟨below_alloc hS4 _, seq_at2 (g := w4.heap.size) (cs := #[]) (t := 58) (below_alloc hS4 _) (below_alloc (Below.refl w4.heap.size w4) _) (At.new w4 _ _) fun w5 hS5 hb5 hA5 => ?_⟩
      have hA4' := hA4.below hb5
      refine seq_do rfl (fun _ => ?_)
      simp only [List.getElem_toArray, List.getElem_cons_succ, List.getElem_cons_zero]
      refine append_copy58 rfl (.tmp 190) (.tmp 192) rfl w4.heap.size rfl hA5 A3 kt.length c3 kt rfl (Kd.C_below HJ.out.r3 (below_step HB.out hS5)) HN.out hS5 hS4.size ?_
      intro v w6 hO6 hS6 hg6
      refine ⟨hS6, ?_⟩
      have hA6 := at_grown hA4' hg6 (by intro e; injection e with e; omega)
      refine seq_do rfl (fun _ => ?_)
      simp only [List.getElem_toArray, List.getElem_cons_succ, List.getElem_cons_zero]
      obtain ⟨ie, hi1, hi2, hi3, hi4⟩ := info58'
      refine wpList_append_own _ rfl (.tmp 193) (.tmp 198) 23 rfl wy.heap.size 58 ie _ 2 16 Try.underlying23 hi1 hi2 hi3 hi4 rfl (by omega) v kt.length _ rfl hO6 ⟨wy.heap.size, 0, none⟩ 1 1 [.int .i64 (n0 : Int), .int .i64 9] rfl rfl ?news (by simp [Value.oneCell']) (by have := HN.out; unfold maxLen; omega) (by have := HN.out; omega) hS6.size ?_
      case news =>
        intro j u hj
        match j, hj with
        | 0, hj => simp at hj; subst hj; simp [Addr.add, hA6.cl]
        | 1, hj => simp at hj; subst hj; simp [Addr.add, hA6.cl]
      intro v2 w8 hown hgr hx8
      clear hx8
      obtain ⟨V3, k3, hv⟩ := own_form hown
      subst hv
      have hS8 := pw_below_grown hS6 _ hS6.size hgr (own_ge hO6)
      refine ⟨hS8, ?_⟩
      repeat (first | (refine seq_off (a' := ?_) rfl rfl ?_ ?_; rotate_left; (· simp only [List.getElem_toArray, List.getElem_cons_succ, List.getElem_cons_zero, Act.put, List.setIfInBounds_toArray, List.set_cons_zero, List.set_cons_succ, i64_w, i32_w]; rfl)) | (refine seq_read (v := ?_) (a' := ?_) rfl rfl (fun w' hS => ?_) ?_ ?_; rotate_left 2; (· have bY := (HY.out.below hS).cl; have h6 := cell_b (below_step HB.out hS) H6.out; go_simp; try with_reducible rfl); (· simp only [List.getElem_toArray, List.getElem_cons_succ, List.getElem_cons_zero, Act.put, List.setIfInBounds_toArray, List.set_cons_zero, List.set_cons_succ, i64_w, i32_w]; rfl)))
      refine seq_last rfl ?_
      simp only [List.getElem_toArray, List.getElem_cons_succ, List.getElem_cons_zero]
      have HY8 := HY.out.below hS8
      have bY := HY8.cl
      have fY := HY8.fr
      go_wp2
      have E2 : At (w8.setCell ⟨wx.heap.size, 3, none⟩ (.slice V3 (kt.length + 1) k3)) wx.heap.size #[.int .i64 hr, .int .i64 gr, .slice K2 t.length d2, .slice V3 (kt.length + 1) k3, .slice A4 kc.length c4] 26 := by have := HY8.set 3 (.slice V3 (kt.length + 1) k3); simpa using this
      have F2 := own_set (own_base hown HB.out.size) (own_ne_at hown HY8 (by decide)) 3 (.slice V3 (kt.length + 1) k3)
      have G2 := (below_then HB.out HB.out.size hS8).setCell (p := ⟨wx.heap.size, 3, none⟩) (Nat.le_refl _) (.slice V3 (kt.length + 1) k3)
      generalize w8.setCell ⟨wx.heap.size, 3, none⟩ (.slice V3 (kt.length + 1) k3) = w9 at E2 F2 G2 ⊢
      refine seq_done ?_
      generalize (.slice V3 (kt.length + 1) k3 : Value) = v2 at E2 F2 ⊢
      generalize (.slice (some ⟨w4.heap.size, 0, none⟩) 0 0 : Value) = z0
      generalize (.slice (some ⟨wy.heap.size, 0, none⟩) 1 1 : Value) = z1
      exact CONT z0 v z1 v2 w9 ⟨E2, F2, G2⟩
  · intro v0 v v1 v2 w9 hF
    obtain ⟨E2, F2, G2⟩ := hF
    obtain ⟨hkk, V, IT, OP, hop, hn0, hlg, hdn, hk, hbb, hee⟩ := HPL.out
    rename_i aK
    exact aK _ _ (tail32 kk hkk V IT OP hop hn0 hlg hdn hk hbb hee HBW.out HJ.out H6.out H7.out G2 E2 F2 _ rfl)

end Go.Proofs.Ytgdbnioodimlfaa.Wk
