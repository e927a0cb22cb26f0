/- What is left of TopWashed from its last loop on. Conditions stand in each theorem. -/
import Derived.Test.YtgdbnioodimlfaaSeq
import Derived.Test.YtgdbnioodimlfaaS2
import Derived.Test.YtgdbnioodimlfaaV1
namespace Go.Proofs.Ytgdbnioodimlfaa.Wk
open Go.RowKit Go.Proofs.YtgdbnioodimlfaaW.PrintWords Go.Proofs.YtgdbnioodimlfaaW.PrintLast Go.Proofs.YtgdbnioodimlfaaW.PrintMore Go.Proofs.Ytgdbnioodimlfaa.PTopWashed Go.Proofs.Ytgdbnioodimlfaa.Sq
attribute [local go_sem] max2_int min2_int max_two min_two max_three min_three max_four min_four
set_option linter.unusedVariables false
set_option linter.unusedSimpArgs false
set_option maxRecDepth 20000 in
set_option maxHeartbeats 4000000 in
theorem tail40 {u0 u1 u2 u3 u4 u5 u6 u7 u8 u9 u10 u11 u12 u13 u14 u15 u16 u17 u18 u19 u20 u21 u22 u23 u26 u27 u28 u29 u30 u31 u32 u33 u34 u35 u36 u37 u38 u39 u40 u41 u42 u43 u44 u45 u46 u47 u48 u49 u50 u51 u52 u53 u54 u55 u56 u57 u58 u59 u60 u61 u62 u63 u64 u65 u66 u67 u68 u69 u70 u71 u72 u73 u74 u75 u76 u77 u78 u79 u80 u81 u82 u83 u84 u85 u86 u87 u88 u89 u90 u91 u92 u93 u94 u95 u96 u97 u98 u99 u100 u101 u102 u103 u104 u105 u106 u107 u108 u109 u110 u111 u112 u113 u114 u115 u116 u117 u118 u119 u120 u121 u122 u123 u124 u125 u126 u127 u128 u129 u130 u131 u132 u133 u134 u135 u136 u137 u138 u139 u140 u141 u142 u143 u144 u145 u146 u147 u148 u149 u150 u151 u152 u153 u154 u155 u156 u157 u158 u159 u160 u161 u162 u163 u164 u165 u166 u167 u168 u169 u170 u171 u172 u173 u174 u175 u176 u177 u178 u179 u180 u181 u182 u183 u184 u185 u186 u187 u188 u189 u190 u191 u192 u193 u194 u195 u196 u197 u198 u199 u200 u201 u202 u203 u204 u205 u206 u207 u208 u209 u210 u211 u212 u213 u214 u215 u216 u217 u218 u219 u220 u221 u222 u223 u224 u225 u226 u227 u228 u229 u230 u231 u232 u233 u234 u235 u236 u237 u238 u239 u240 u241 u242 u243 u244 u245 u246 u247 u248 u249 u250 u251 u252 u253 u254 u255 u256 u257 u258 u259 u260 u261 u262 u263 u264 u265 u266 u267 u268 u269 u270 u271 u272 u273 u274 u275 u276 u277 u278 u279 u280 u281 u282 u283 u284 u285 u286 u287 u288 u289 u290 u291 u292 u293 u294 u295 u296 u297 u298 u299 u300 : Value} {w wv : World} {hr gr : Int} {n2 n1 n4 n gy : Nat} {K2 : Option Addr} {d2 : Nat} {yl : List S54} {A3 : Option Addr} {c3 : Nat} {yt : List S58} {A4 : Option Addr} {c4 : Nat} {yc : List S60} {e0 e1 e2 e3 n0 op lg : Int} {cl : List S65} {ti : List S73} {cp : List S74} (hn1 : n1 = n + 1) (HB : Below w.heap.size w wv) (HY : At wv gy #[.int .i64 hr, .int .i64 gr, .slice K2 n2 d2, .slice A3 n1 c3, .slice A4 n4 c4] 26) (HH : HouIn wv n2 n1 n4 K2 d2 yl A3 c3 yt A4 c4 yc) (HLN : n2 ≤ 1000 ∧ n1 ≤ 1000 ∧ n4 ≤ 1000) (HLS : yl.map m65 = cl ∧ yt.map m73 = ti ∧ yc.map m74 = cp) (HYI : Yin e0 e1 e2 e3 hr gr cl ti cp n n0 op lg) (cd : Code) (hcd : nthTail 25 Try.f3.body = some cd) : Code.wp Try.prog cd (bodyPost Try.prog Try.f3 fun e w' => e = .returned (.bool true) ∧ Below w.heap.size w w') ⟨#[u0, u1, u2, u3, u4, u5, u6, u7, u8, u9, u10, u11, u12, u13, u14, u15, u16, u17, u18, u19, u20, u21, u22, u23, .pointer (some ⟨gy, 0, none⟩), .int .i64 (n : Int), u26, u27, u28, u29, u30, u31, u32, u33, u34, u35, u36, u37, u38, u39, u40, u41, u42, u43, u44, u45, u46, u47, u48, u49, u50, u51, u52, u53, u54, u55, u56, u57, u58, u59, u60, u61, u62, u63, u64, u65, u66, u67, u68, u69, u70, u71, u72, u73, u74, u75, u76, u77, u78, u79, u80, u81, u82, u83, u84, u85, u86, u87, u88, u89, u90, u91, u92, u93, u94, u95, u96, u97, u98, u99, u100, u101, u102, u103, u104, u105, u106, u107, u108, u109, u110, u111, u112, u113, u114, u115, u116, u117, u118, u119, u120, u121, u122, u123, u124, u125, u126, u127, u128, u129, u130, u131, u132, u133, u134, u135, u136, u137, u138, u139, u140, u141, u142, u143, u144, u145, u146, u147, u148, u149, u150, u151, u152, u153, u154, u155, u156, u157, u158, u159, u160, u161, u162, u163, u164, u165, u166, u167, u168, u169, u170, u171, u172, u173, u174, u175, u176, u177, u178, u179, u180, u181, u182, u183, u184, u185, u186, u187, u188, u189, u190, u191, u192, u193, u194, u195, u196, u197, u198, u199, u200, u201, u202, u203, u204, u205, u206, u207, u208, u209, u210, u211, u212, u213, u214, u215, u216, u217, u218, u219, u220, u221, u222, u223, u224, u225, u226, u227, u228, u229, u230, u231, u232, u233, u234, u235, u236, u237, u238, u239, u240, u241, u242, u243, u244, u245, u246, u247, u248, u249, u250, u251, u252, u253, u254, u255, u256, u257, u258, u259, u260, u261, u262, u263, u264, u265, u266, u267, u268, u269, u270, u271, u272, u273, u274, u275, u276, u277, u278, u279, u280, u281, u282, u283, u284, u285, u286, u287, u288, u289, u290, u291, u292, u293, u294, u295, u296, u297, u298, u299, u300], []⟩ wv := by
  obtain rfl : _ = cd := Option.some.inj ((show nthTail 25 Try.f3.body = some _ from rfl).symm.trans hcd)
  clear hcd

  replace HB := Aside0.mk HB
  replace HY := Aside0.mk HY
  replace HH := Aside0.mk HH
  replace HLN := Aside0.mk HLN
  replace HLS := Aside0.mk HLS
  replace HYI := Aside0.mk HYI
  have HN1 := Aside0.mk hn1
  clear hn1
  go_wp2
  go_loopg [31] n (fun gq v31 w' => ∃ j : Nat, v31 = .int .i64 (j : Int) ∧ Aside0 (j + gq = n) ∧ Aside0 (Below w.heap.size w w') ∧ Aside0 (At w' gy #[.int .i64 hr, .int .i64 gr, .slice K2 n2 d2, .slice A3 n1 c3, .slice A4 n4 c4] 26) ∧ Aside0 (HouIn w' n2 n1 n4 K2 d2 yl A3 c3 yt A4 c4 yc))
  case atStart => exact ⟨0, rfl, ⟨by omega⟩, HB, HY, HH⟩
  case round =>
    clear HB HY HH
    obtain ⟨j, rfl, HK, HB, HY, HH⟩ := hrel
    by_cases hlt : j < n
    · obtain ⟨k1, rfl⟩ : ∃ k1, gk = k1 + 1 := ⟨gk - 1, by have := HK.out; omega⟩
      have HLT := Aside0.mk hlt
      have hj2 : (j : Int) < n := by omega
      have hjw : wrap64 ((j : Int) + 1) = ((j + 1 : Nat) : Int) := by have h1 := HN1.out; have h2 := HLN.out; rw [w64 (by omega) (by omega)]; omega
      have bY := HY.out.cl
      clear hlt
      go_wp2_with (first | (go_at_call 15; refine (houseOf_calls hr gr n2 n1 n4 yl K2 d2 yt A3 c3 yc A4 c4 _ HH.out.e2 HH.out.e3 HH.out.e4 HH.out.r2 HH.out.r3 HH.out.r4 HLN.out.1 HLN.out.2.1 HLN.out.2.2 cl ti cp HLS.out.1 HLS.out.2.1 HLS.out.2.2).mono ?_; rintro e w5 ⟨B2, b2, B3, b3, B4, b4, rfl, hI, hb⟩; have HHI := Aside0.mk hI; replace HY := Aside0.mk (HY.out.below hb); replace HH := Aside0.mk (HH.out.below hb); replace HB := Aside0.mk (below_step HB.out hb); clear hI hb bY) | (go_at_call 17; refine (Clash_calls e0 e1 e2 e3 hr gr j n _ HHI.out HYI.out.T (by have := HYI.out.ln; have := HLT.out; omega) (by have := HYI.out.ln; omega) (by have := HLT.out; omega) (HYI.out.a j HLT.out)).mono ?_; rintro e w6 ⟨rfl, hb⟩; replace HY := Aside0.mk (HY.out.below hb); replace HH := Aside0.mk (HH.out.below hb); replace HB := Aside0.mk (below_step HB.out hb); clear hb))
      go_roundg k1
      case measure => omega
      case rel => exact ⟨j + 1, by go_num, ⟨by have := HK.out; omega⟩, HB, HY, HH⟩
    · have hj : j = n := by have := HK.out; omega
      subst hj
      go_wp2_with (go_at_call 6; refine (washed_calls _).mono ?_; rintro e w7 ⟨rfl, hb⟩; replace HB := Aside0.mk (below_step HB.out hb); clear hb)
      go_ret
      exact ⟨rfl, HB.out⟩

end Go.Proofs.Ytgdbnioodimlfaa.Wk

/- What is left of TopWashed from its comparison on. Conditions stand in each theorem. -/
namespace Go.Proofs.Ytgdbnioodimlfaa.Wk
open Go.RowKit Go.Proofs.YtgdbnioodimlfaaW.PrintWords Go.Proofs.YtgdbnioodimlfaaW.PrintLast Go.Proofs.YtgdbnioodimlfaaW.PrintMore Go.Proofs.Ytgdbnioodimlfaa.PTopWashed Go.Proofs.Ytgdbnioodimlfaa.Sq
attribute [local go_sem] max2_int min2_int max_two min_two max_three min_three max_four min_four
set_option linter.unusedVariables false
set_option linter.unusedSimpArgs false
set_option maxRecDepth 20000 in
set_option maxHeartbeats 4000000 in
theorem tail38 {u0 u1 u2 u3 u4 u5 u6 u7 u8 u9 u10 u11 u12 u13 u14 u15 u16 u17 u19 u20 u21 u22 u23 u31 u32 u33 u34 u35 u36 u37 u38 u39 u40 u41 u42 u43 u44 u45 u46 u47 u48 u49 u50 u51 u52 u53 u54 u55 u56 u57 u58 u59 u60 u61 u62 u63 u64 u65 u66 u67 u68 u69 u70 u71 u72 u73 u74 u75 u76 u77 u78 u79 u80 u81 u82 u83 u84 u85 u86 u87 u88 u89 u90 u91 u92 u93 u94 u95 u96 u97 u98 u99 u100 u101 u102 u103 u104 u105 u106 u107 u108 u109 u110 u111 u112 u113 u114 u115 u116 u117 u118 u119 u120 u121 u122 u123 u124 u125 u126 u127 u128 u129 u130 u131 u132 u133 u134 u135 u136 u137 u138 u139 u140 u141 u142 u143 u144 u145 u146 u147 u148 u149 u150 u151 u152 u153 u154 u155 u156 u157 u158 u159 u160 u161 u162 u163 u164 u165 u166 u167 u168 u169 u170 u171 u172 u173 u174 u175 u176 u177 u178 u179 u180 u181 u182 u183 u184 u185 u186 u187 u188 u189 u190 u191 u192 u193 u194 u195 u196 u197 u198 u199 u200 u201 u202 u203 u204 u205 u206 u207 u208 u209 u210 u211 u212 u213 u214 u215 u216 u217 u218 u219 u220 u221 u222 u223 u224 u225 u226 u227 u228 u229 u230 u231 u232 u233 u234 u235 u236 u237 u238 u239 u240 u241 u242 u243 u244 u245 u246 u247 u248 u249 u250 u251 u252 u253 u254 u255 u256 u257 u258 u259 u260 u261 u262 u263 u264 u265 u266 u267 u268 u269 u270 u271 u272 u273 u274 u275 u276 u277 u278 u279 u280 u281 u282 u283 u284 u285 u286 u287 u288 u289 u290 u291 u292 u293 u294 u295 u296 u297 u298 u299 u300 : Value} {w wv : World} {hr gr : Int} {n2 n1 n4 n g7 k7 gy gh kh g29 : Nat} {K2 : Option Addr} {d2 : Nat} {yl : List S54} {A3 : Option Addr} {c3 : Nat} {yt : List S58} {A4 : Option Addr} {c4 : Nat} {yc : List S60} {e0 e1 e2 e3 n0 op lg dn hh : Int} {cl : List S65} {ti : List S73} {cp : List S74} {cuh : Array Value} (hn1 : n1 = n + 1) (HB : Below w.heap.size w wv) (HY : At wv gy #[.int .i64 hr, .int .i64 gr, .slice K2 n2 d2, .slice A3 n1 c3, .slice A4 n4 c4] 26) (HH : HouIn wv n2 n1 n4 K2 d2 yl A3 c3 yt A4 c4 yc) (HLN : n2 ≤ 1000 ∧ n1 ≤ 1000 ∧ n4 ≤ 1000) (HLS : yl.map m65 = cl ∧ yt.map m73 = ti ∧ yc.map m74 = cp) (HYI : Yin e0 e1 e2 e3 hr gr cl ti cp n n0 op lg) (H7 : wv.cell? ⟨g7, 0, none⟩ = some (.int .i64 dn)) (HAH : At wv gh cuh 65 ∧ cuh[n * 2]? = some (.int .i64 hh) ∧ cuh[n * 2 + 1]? = some (.int .i64 hh)) (H29 : At wv g29 #[.int .i64 dn, .int .i64 dn] 65) (cd : Code) (hcd : nthTail 24 Try.f3.body = some cd) : Code.wp Try.prog cd (bodyPost Try.prog Try.f3 fun e w' => e = .returned (.bool true) ∧ Below w.heap.size w w') ⟨#[u0, u1, u2, u3, u4, u5, u6, u7, u8, u9, u10, u11, u12, u13, u14, u15, u16, u17, .slice (some ⟨g7, 0, none⟩) 1 k7, u19, u20, u21, u22, u23, .pointer (some ⟨gy, 0, none⟩), .int .i64 (n : Int), .int .i64 hh, .slice (some ⟨gh, 0, none⟩) n1 kh, .int .i64 0, .pointer (some ⟨g29, 0, none⟩), .int .i64 0, u31, u32, u33, u34, u35, u36, u37, u38, u39, u40, u41, u42, u43, u44, u45, u46, u47, u48, u49, u50, u51, u52, u53, u54, u55, u56, u57, u58, u59, u60, u61, u62, u63, u64, u65, u66, u67, u68, u69, u70, u71, u72, u73, u74, u75, u76, u77, u78, u79, u80, u81, u82, u83, u84, u85, u86, u87, u88, u89, u90, u91, u92, u93, u94, u95, u96, u97, u98, u99, u100, u101, u102, u103, u104, u105, u106, u107, u108, u109, u110, u111, u112, u113, u114, u115, u116, u117, u118, u119, u120, u121, u122, u123, u124, u125, u126, u127, u128, u129, u130, u131, u132, u133, u134, u135, u136, u137, u138, u139, u140, u141, u142, u143, u144, u145, u146, u147, u148, u149, u150, u151, u152, u153, u154, u155, u156, u157, u158, u159, u160, u161, u162, u163, u164, u165, u166, u167, u168, u169, u170, u171, u172, u173, u174, u175, u176, u177, u178, u179, u180, u181, u182, u183, u184, u185, u186, u187, u188, u189, u190, u191, u192, u193, u194, u195, u196, u197, u198, u199, u200, u201, u202, u203, u204, u205, u206, u207, u208, u209, u210, u211, u212, u213, u214, u215, u216, u217, u218, u219, u220, u221, u222, u223, u224, u225, u226, u227, u228, u229, u230, u231, u232, u233, u234, u235, u236, u237, u238, u239, u240, u241, u242, u243, u244, u245, u246, u247, u248, u249, u250, u251, u252, u253, u254, u255, u256, u257, u258, u259, u260, u261, u262, u263, u264, u265, u266, u267, u268, u269, u270, u271, u272, u273, u274, u275, u276, u277, u278, u279, u280, u281, u282, u283, u284, u285, u286, u287, u288, u289, u290, u291, u292, u293, u294, u295, u296, u297, u298, u299, u300], []⟩ wv := by
  obtain rfl : _ = cd := Option.some.inj ((show nthTail 24 Try.f3.body = some _ from rfl).symm.trans hcd)
  clear hcd

  replace HB := Aside0.mk HB
  replace HY := Aside0.mk HY
  replace HH := Aside0.mk HH
  replace HLN := Aside0.mk HLN
  replace HLS := Aside0.mk HLS
  replace HYI := Aside0.mk HYI
  replace H7 := Aside0.mk H7
  replace HAH := Aside0.mk HAH
  replace H29 := Aside0.mk H29
  have HN1 := Aside0.mk hn1
  clear hn1
  have hn1 : (n : Int) < n1 := by have := HN1.out; omega
  have hw : wrap64 ((n : Int) + 1) = (n1 : Int) := by have h1 := HN1.out; have h2 := HLN.out; rw [w64 (by omega) (by omega)]; omega
  have he := eq65
  have HW := Aside0.mk (And.intro hn1 hw)
  clear hn1 hw he
  go_upto_region 38 with fail
  refine region_b [(0, 0), (1, 0), (2, 0), (3, 0), (4, 0), (5, 0), (6, 0), (7, 0), (8, 0), (9, 0), (10, 0), (11, 0), (12, 0), (13, 0), (14, 0), (15, 0), (16, 0), (17, 0), (18, 0), (19, 0), (20, 0), (21, 0), (22, 0), (23, 0), (24, 0), (25, 0), (26, 0), (27, 0), (28, 0), (29, 0), (30, 0), (31, 0), (32, 0), (33, 0)] (by kernel_rfl) rfl (by kernel_rfl) (by intro _ _ d _ _ h; cases d <;> exact h) ?_
  repeat (first | (refine seq_off (a' := ?_) rfl rfl ?_ ?_; rotate_left; (· simp only [List.getElem_toArray, List.getElem_cons_succ, List.getElem_cons_zero, Act.put, List.setIfInBounds_toArray, List.set_cons_zero, List.set_cons_succ, i64_w, i32_w]; rfl)) | (refine seq_read (v := ?_) (a' := ?_) rfl rfl (fun w' hS => ?_) ?_ ?_; rotate_left 2; (· have c7 := cell_b hS H7.out; have ah := HAH.out.1.below hS; have ch0 := (ah.cl (n * 2)).trans HAH.out.2.1; have ch1 := (ah.cl (n * 2 + 1)).trans HAH.out.2.2; have b29 := (H29.out.below hS).cl; have he := eq65; obtain ⟨hn1, hw⟩ := HW.out; clear ah; go_simp; try with_reducible rfl); (· simp only [List.getElem_toArray, List.getElem_cons_succ, List.getElem_cons_zero, Act.put, List.setIfInBounds_toArray, List.set_cons_zero, List.set_cons_succ, i64_w, i32_w]; rfl)))
  refine seq_done ?_
  have hd := (Below.refl wv.heap.size wv).drew
  rename_i K1 aK1 K2x aK2
  refine aK2 _ _ ?_
  go_step
  refine wp_skip ?_
  exact aK1 _ _ (tail40 HN1.out (below_then HB.out HB.out.size hd) (HY.out.below hd) (HH.out.below hd) HLN.out HLS.out HYI.out _ rfl)

end Go.Proofs.Ytgdbnioodimlfaa.Wk
