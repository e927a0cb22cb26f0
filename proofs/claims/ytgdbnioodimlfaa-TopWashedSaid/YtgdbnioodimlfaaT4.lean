/- What is left of TopWashed from the clips of its house on, up to the comparison. Conditions stand in each theorem. -/
import Derived.Test.YtgdbnioodimlfaaSeq
import Derived.Test.YtgdbnioodimlfaaT5
namespace Go.Proofs.Ytgdbnioodimlfaa.Wk
open Go.RowKit Go.Proofs.YtgdbnioodimlfaaW.PrintWords Go.Proofs.YtgdbnioodimlfaaW.PrintLast Go.Proofs.YtgdbnioodimlfaaW.PrintMore Go.Proofs.Ytgdbnioodimlfaa.PTopWashed Go.Proofs.Ytgdbnioodimlfaa.Sq
attribute [local go_sem] max2_int min2_int max_two min_two max_three min_three max_four min_four
set_option linter.unusedVariables false
set_option linter.unusedSimpArgs false
set_option maxRecDepth 20000 in
set_option maxHeartbeats 4000000 in
theorem tail32 {u0 u1 u2 u3 u4 u5 u6 u7 u8 u9 u10 u11 u12 u13 u14 u15 u16 u19 u26 u27 u28 u29 u30 u31 u32 u33 u34 u35 u36 u37 u38 u39 u40 u41 u42 u43 u44 u45 u46 u47 u48 u49 u50 u51 u52 u53 u54 u55 u56 u57 u58 u59 u60 u61 u62 u63 u64 u65 u66 u67 u68 u69 u70 u71 u72 u73 u74 u75 u76 u77 u78 u79 u80 u81 u82 u83 u84 u85 u86 u87 u88 u89 u90 u91 u92 u93 u94 u95 u96 u97 u98 u99 u100 u101 u102 u103 u104 u105 u106 u107 u108 u109 u110 u111 u112 u113 u114 u115 u116 u117 u118 u119 u120 u121 u122 u123 u124 u125 u126 u127 u128 u129 u130 u131 u132 u133 u134 u135 u136 u137 u138 u139 u140 u141 u142 u143 u144 u145 u146 u147 u148 u149 u150 u151 u152 u153 u154 u155 u156 u157 u158 u159 u160 u161 u162 u163 u164 u165 u166 u167 u168 u169 u170 u171 u172 u173 u174 u175 u176 u177 u178 u179 u180 u181 u182 u183 u184 u185 u186 u187 u188 u189 u190 u191 u192 u193 u194 u195 u196 u197 u198 u199 u200 u201 u202 u203 u204 u205 u206 u207 u208 u209 u210 u211 u212 u213 u214 u215 u216 u217 u218 u219 u220 u221 u222 u223 u224 u225 u226 u227 u228 u229 u230 u231 u232 u233 u234 u235 u236 u237 u238 u239 u240 u241 u242 u243 u244 u245 u246 u247 u248 u249 u250 u251 u252 u253 u254 u255 u256 u257 u258 u259 u260 u261 u262 u263 u264 u265 u266 u267 u268 u269 u270 u271 u272 u273 u274 u275 u276 u277 u278 u279 u280 u281 u282 u283 u284 u285 u286 u287 u288 u289 u290 u291 u292 u293 u294 u295 u296 u297 u298 u299 u300 : Value} {w wx : World} {hr gr tubs op clo : Int} {kl : List S54} {A3 : Option Addr} {c3 : Nat} {kt : List S58} {A4 : Option Addr} {c4 : Nat} {kc : List S60} {A5 : Option Addr} {c5 : Nat} {kq : List S54} {K2 : Option Addr} {d2 : Nat} {t : List Int} {all : List (List Int)} {g6 k6 g7 k7 k : Nat} {lg dn bb ee : Int} {n0 : Nat} (kk : Nat) (hkk : 100 < kk) (V : Vfl hr gr kl kt kc tubs op clo kq all) (IT : IsTru kl kc t) (OP : ∀ i, i < kc.length → tr t kc i ≤ op) (hop : opn (kt.map m73) (kc.map m74) (n0 : Int) = false) (hn0 : n0 < 4) (hlg : 0 ≤ lg ∧ lg ≤ 240) (hdn : op + lg = dn) (hk : k < t.length) (hbb : op + gi t k = bb) (hee : dn + gi t k = ee) {wz : World} {v3 : Value} (HB : Below w.heap.size w wx) (HJ : RefIn wx K2 d2 (kll t) A3 c3 kt A4 c4 kc A5 c5 kq) (H6 : wx.cell? ⟨g6, 0, none⟩ = some (.int .i64 (n0 : Int))) (H7 : wx.cell? ⟨g7, 0, none⟩ = some (.int .i64 dn)) (HX : Below wx.heap.size wx wz) (HY : At wz wx.heap.size #[.int .i64 hr, .int .i64 gr, .slice K2 t.length d2, v3, .slice A4 kc.length c4] 26) (H58 : wz.ownsRow wx.heap.size 58 2 v3 (kt.length + 1) (raw2 (fun i => (g58 kt i).f0) (fun i => (g58 kt i).f1) kt.length ++ [.int .i64 (n0 : Int), .int .i64 9])) (cd : Code) (hcd : nthTail 19 Try.f3.body = some cd) : Code.wp Try.prog cd (bodyPost Try.prog Try.f3 fun e w' => e = .returned (.bool true) ∧ Below w.heap.size w w') ⟨#[u0, u1, u2, u3, u4, u5, u6, u7, u8, u9, u10, u11, u12, u13, u14, u15, u16, .slice (some ⟨g6, 0, none⟩) 1 k6, .slice (some ⟨g7, 0, none⟩) 1 k7, u19, .int .i64 lg, .int .i64 (k : Int), .int .i64 bb, .int .i64 ee, .pointer (some ⟨wx.heap.size, 0, none⟩), .int .i64 (kt.length : Int), u26, u27, u28, u29, u30, u31, u32, u33, u34, u35, u36, u37, u38, u39, u40, u41, u42, u43, u44, u45, u46, u47, u48, u49, u50, u51, u52, u53, u54, u55, u56, u57, u58, u59, u60, u61, u62, u63, u64, u65, u66, u67, u68, u69, u70, u71, u72, u73, u74, u75, u76, u77, u78, u79, u80, u81, u82, u83, u84, u85, u86, u87, u88, u89, u90, u91, u92, u93, u94, u95, u96, u97, u98, u99, u100, u101, u102, u103, u104, u105, u106, u107, u108, u109, u110, u111, u112, u113, u114, u115, u116, u117, u118, u119, u120, u121, u122, u123, u124, u125, u126, u127, u128, u129, u130, u131, u132, u133, u134, u135, u136, u137, u138, u139, u140, u141, u142, u143, u144, u145, u146, u147, u148, u149, u150, u151, u152, u153, u154, u155, u156, u157, u158, u159, u160, u161, u162, u163, u164, u165, u166, u167, u168, u169, u170, u171, u172, u173, u174, u175, u176, u177, u178, u179, u180, u181, u182, u183, u184, u185, u186, u187, u188, u189, u190, u191, u192, u193, u194, u195, u196, u197, u198, u199, u200, u201, u202, u203, u204, u205, u206, u207, u208, u209, u210, u211, u212, u213, u214, u215, u216, u217, u218, u219, u220, u221, u222, u223, u224, u225, u226, u227, u228, u229, u230, u231, u232, u233, u234, u235, u236, u237, u238, u239, u240, u241, u242, u243, u244, u245, u246, u247, u248, u249, u250, u251, u252, u253, u254, u255, u256, u257, u258, u259, u260, u261, u262, u263, u264, u265, u266, u267, u268, u269, u270, u271, u272, u273, u274, u275, u276, u277, u278, u279, u280, u281, u282, u283, u284, u285, u286, u287, u288, u289, u290, u291, u292, u293, u294, u295, u296, u297, u298, u299, u300], []⟩ wz := by
  obtain rfl : _ = cd := Option.some.inj ((show nthTail 19 Try.f3.body = some _ from rfl).symm.trans hcd)
  clear hcd
  have HPL := Aside0.mk (And.intro hkk (And.intro V (And.intro IT (And.intro OP (And.intro hop (And.intro hn0 (And.intro hlg (And.intro hdn (And.intro hk (And.intro hbb hee))))))))))
  clear hkk V IT OP hop hn0 hlg hdn hk hbb hee

  replace HJ := Aside0.mk HJ
  replace H6 := Aside0.mk H6
  replace H7 := Aside0.mk H7
  replace HX := Aside0.mk HX
  replace H58 := Aside0.mk H58
  replace HY := Aside0.mk HY
  have HBW := Aside0.mk HB
  clear HB
  have HN := Aside0.mk (show kt.length ≤ 6 ∧ kc.length ≤ 1000 from by have h1 := HPL.out.2.1.H.n3; have h2 := HPL.out.2.1.H.C.1; omega)
  obtain ⟨ie, hi1, hi2, hi3, hi4⟩ := info60'
  have HI := Aside0.mk (And.intro hi1 (And.intro hi2 (And.intro hi3 hi4)))
  clear hi1 hi2 hi3 hi4
  have bY := HY.out.cl
  have lY := HY.out.lt
  go_upto_region 33 with (first | (at_builtin; refine append_copy60 rfl (.tmp 201) (.tmp 203) rfl wz.heap.size rfl (At.new wz _ _) A4 kc.length c4 kc rfl (Kd.C_below HJ.out.r4 (below_alloc HX.out _)) HN.out.2 (below_alloc HX.out _) HX.out.size ?_; intro v w5 hO hS5 hg5; have HO5 := Aside0.mk hO; have HS5 := Aside0.mk hS5; have HY5 := Aside0.mk (at_grown (HY.out.alloc _) hg5 (by intro e; injection e with e; have := HY.out.lt; omega)); have H585 := Aside0.mk (own_grown (own_alloc H58.out _) hg5 (.inr (Ne.symm (own_ne_at (own_alloc H58.out (.cells #[] 60)) (At.new wz #[] 60) (by decide))))); clear hO hS5 hg5 bY lY; have bY := HY5.out.cl; have lY := HY5.out.lt) | (at_builtin; refine wpList_append_own _ rfl (.tmp 204) (.tmp 213) 24 rfl wx.heap.size 60 ie _ 3 24 Try.underlying24 HI.out.1 HI.out.2.1 HI.out.2.2.1 HI.out.2.2.2 rfl (by omega) v kc.length _ rfl (own_alloc HO5.out _) ⟨w5.heap.size, 0, none⟩ 2 2 [.int .i64 (kt.length : Int), .int .i64 (k : Int), .int .i64 bb, .int .i64 (kt.length : Int), .int .i64 (k : Int), .int .i64 ee] rfl rfl ?news (by simp [Value.oneCell']) (by have := HN.out; unfold maxLen; omega) (by have := HN.out; omega) ?base ?_; (case news => intro j u hj; match j, hj with | 0, hj => (simp at hj; subst hj; simp [Addr.add, (At.new w5 _ _).cl]) | 1, hj => (simp at hj; subst hj; simp [Addr.add, (At.new w5 _ _).cl]) | 2, hj => (simp at hj; subst hj; simp [Addr.add, (At.new w5 _ _).cl]) | 3, hj => (simp at hj; subst hj; simp [Addr.add, (At.new w5 _ _).cl]) | 4, hj => (simp at hj; subst hj; simp [Addr.add, (At.new w5 _ _).cl]) | 5, hj => (simp at hj; subst hj; simp [Addr.add, (At.new w5 _ _).cl])); (case base => have h1 := HS5.out.size; simp; omega); intro v4 w8 hown hgr hx8; clear hx8; obtain ⟨V4, k4, hv⟩ := own_form hown; subst hv; have HO8 := Aside0.mk hown; have HY8 := Aside0.mk (at_grown (HY5.out.alloc (.cells #[.int .i64 (kt.length : Int), .int .i64 (k : Int), .int .i64 bb, .int .i64 (kt.length : Int), .int .i64 (k : Int), .int .i64 ee] 60)) hgr (own_ne_at (own_alloc HO5.out (.cells #[.int .i64 (kt.length : Int), .int .i64 (k : Int), .int .i64 bb, .int .i64 (kt.length : Int), .int .i64 (k : Int), .int .i64 ee] 60)) (HY5.out.alloc (.cells #[.int .i64 (kt.length : Int), .int .i64 (k : Int), .int .i64 bb, .int .i64 (kt.length : Int), .int .i64 (k : Int), .int .i64 ee] 60)) (by decide))); have H588 := Aside0.mk (own_grown (own_alloc H585.out (.cells #[.int .i64 (kt.length : Int), .int .i64 (k : Int), .int .i64 bb, .int .i64 (kt.length : Int), .int .i64 (k : Int), .int .i64 ee] 60)) hgr (own_ne_own (own_alloc H585.out (.cells #[.int .i64 (kt.length : Int), .int .i64 (k : Int), .int .i64 bb, .int .i64 (kt.length : Int), .int .i64 (k : Int), .int .i64 ee] 60)) (own_alloc HO5.out (.cells #[.int .i64 (kt.length : Int), .int .i64 (k : Int), .int .i64 bb, .int .i64 (kt.length : Int), .int .i64 (k : Int), .int .i64 ee] 60)) (by decide))); have HS8 := Aside0.mk (pw_below_grown (below_alloc HS5.out (.cells #[.int .i64 (kt.length : Int), .int .i64 (k : Int), .int .i64 bb, .int .i64 (kt.length : Int), .int .i64 (k : Int), .int .i64 ee] 60)) _ (by have h1 := HS5.out.size; simp; omega) hgr (own_ge (own_alloc HO5.out (.cells #[.int .i64 (kt.length : Int), .int .i64 (k : Int), .int .i64 bb, .int .i64 (kt.length : Int), .int .i64 (k : Int), .int .i64 ee] 60)))); clear hown hgr bY lY; have bY := HY8.out.cl; have fY := HY8.out.fr))
  have E2 : At (w8.setCell ⟨wx.heap.size, 4, none⟩ (.slice V4 (kc.length + 2) k4)) wx.heap.size #[.int .i64 hr, .int .i64 gr, .slice K2 t.length d2, v3, (.slice V4 (kc.length + 2) k4)] 26 := by have := HY8.out.set 4 (.slice V4 (kc.length + 2) k4); simpa using this
  have F58 := own_set H588.out (own_ne_at H588.out HY8.out (by decide)) 4 (.slice V4 (kc.length + 2) k4)
  have F60 := own_set HO8.out (own_ne_at HO8.out HY8.out (by decide)) 4 (.slice V4 (kc.length + 2) k4)
  have G2 := HS8.out.setCell (p := ⟨wx.heap.size, 4, none⟩) (Nat.le_refl _) (.slice V4 (kc.length + 2) k4)
  clear bY fY
  generalize w8.setCell ⟨wx.heap.size, 4, none⟩ (.slice V4 (kc.length + 2) k4) = w9 at E2 F58 F60 G2 ⊢
  obtain ⟨hkk, V, IT, OP, hop, hn0, hlg, hdn, hk, hbb, hee⟩ := HPL.out
  obtain ⟨yt, hyt⟩ : ∃ l, ytk kt (n0 : Int) = l := ⟨_, rfl⟩
  obtain ⟨yc, hyc⟩ : ∃ l, ycp kt kc (k : Int) bb ee = l := ⟨_, rfl⟩
  have lt : yt.length = kt.length + 1 := by rw [← hyt]; simp [ytk]
  have lc : yc.length = kc.length + 2 := by rw [← hyc]; simp [ycp]
  rw [← raw_ytk, hyt] at F58
  rw [← raw_ycp, hyc] at F60
  obtain ⟨A3', c3', hv3, m3, r3⟩ := C58_of_raw F58 lt (by have := HN.out; omega)
  obtain ⟨A4', c4', hv4, m4, r4⟩ := C60_of_raw F60 lc (by have := V.H.C.1; omega)
  subst hv3
  injection hv4 with h1 h2 h3
  subst h1 h3
  obtain ⟨rf, hf1, hf2⟩ := fault_f hr gr (kll t) yt yc kk hkk
  have r2 := HJ.out.r2
  have m2 := HJ.out.m2
  rw [kll_len] at r2 m2
  have HH := Aside0.mk (show HouIn w9 t.length (kt.length + 1) (kc.length + 2) K2 d2 (kll t) A3' c3' yt V4 k4 yc from ⟨kll_len t, lt, lc, Kd.C_below r2 G2, m2, r3, m3, r4, m4⟩)
  replace H6 := Aside0.mk (cell_b G2 H6.out)
  replace H7 := Aside0.mk (cell_b G2 H7.out)
  replace HBW := Aside0.mk (below_then HBW.out HBW.out.size G2)
  replace HY := Aside0.mk E2
  have HF1 := Aside0.mk hf1
  have HLN := Aside0.mk (And.intro (show t.length ≤ 1000 from by have h1 := IT.1.1; have h2 := V.H.V.1; omega) (And.intro (show kt.length + 1 ≤ 1000 from by have := HN.out; omega) (show kc.length + 2 ≤ 1000 from by have := V.H.C.1; omega)))
  clear E2 F58 F60 G2 lt lc r3 m3 r4 m4 hf1 r2 m2 HY5 HY8 HO5 HO8 H58 H585 H588 HS5 HS8 HJ HX
  generalize wx.heap.size = gy at HY ⊢
  by_cases hr0 : rf = 0
  · subst hr0
    have Y := hf2 rfl
    have YI : Yin (gi t 0) (gi t 1) (gi t 2) (gi t 3) hr gr ((kll t).map m65) (yt.map m73) (yc.map m74) kt.length n0 op lg := by
      subst hyt hyc
      exact y_in bb ee (V.H.one IT.1) (by rw [Int.toNat_natCast]; exact hbb.symm) (by rw [Int.toNat_natCast, hdn]; exact hee.symm) Y V.o0 hlg.1 IT.2 OP hop
    obtain ⟨cl, hcl⟩ : ∃ l, (kll t).map m65 = l := ⟨_, rfl⟩
    obtain ⟨ti, hti⟩ : ∃ l, yt.map m73 = l := ⟨_, rfl⟩
    obtain ⟨cp, hcp⟩ : ∃ l, yc.map m74 = l := ⟨_, rfl⟩
    rw [hcl, hti, hcp] at YI
    have HYI := Aside0.mk YI
    have HLS := Aside0.mk (And.intro hcl (And.intro hti hcp))
    have hhr := V.H.hr1
    have hhr2 := V.H.hr2
    have hgr := V.H.gr1
    have hgr2 := V.H.gr2
    obtain ⟨d, hd⟩ : ∃ d, lg - gr = d := ⟨_, rfl⟩
    obtain ⟨m, hif⟩ : ∃ m, (if (0 : Int) < d then d else 0) = m := ⟨_, rfl⟩
    have hm : 0 ≤ m ∧ m ≤ 240 := by rw [← hif]; split <;> omega
    obtain ⟨s, hs⟩ : ∃ s, m + hr = s := ⟨_, rfl⟩
    obtain ⟨s1, hs1⟩ : ∃ x, s - 1 = x := ⟨_, rfl⟩
    have htd := td_bd (n := s1) (h := hr) (by omega) hhr
    obtain ⟨hh, hhh⟩ : ∃ x, Int.tdiv s1 hr = x := ⟨_, rfl⟩
    rw [hhh] at htd
    have e1 : wrap64 (lg - gr) = d := by rw [w64 (by omega) (by omega)]; exact hd
    have e2 : wrap64 (m + hr) = s := by rw [w64 (by omega) (by omega)]; exact hs
    have e3 : wrap64 (s - 1) = s1 := by rw [w64 (by omega) (by omega)]; exact hs1
    have e4 : wrap64 hh = hh := w64 (by omega) (by omega)
    have e5 : (hr == 0) = false := by rw [beq_eq_false_iff_ne]; omega
    have e6 : ¬ hr = 0 := by omega
    have HHH := Aside0.mk (show Int.tdiv (mx 0 (lg - gr) + hr - 1) hr = hh from by rw [← hhh, ← hs1, ← hs, ← hif, ← hd]; rfl)
    clear hm hs hs1 htd hd hhr hhr2 hgr hgr2 hf2 Y YI hcl hti hcp hyt hyc hkk V IT OP hop hlg hdn hk hbb hee
    have bY := HY.out.cl
    go_upto_region 36 with (go_at_call 13; refine (faultOf_calls kk hr gr t.length (kt.length + 1) (kc.length + 2) K2 d2 (kll t) A3' c3' yt V4 k4 yc _ _ HH.out.e2 HH.out.e3 HH.out.e4 HH.out.r2 HH.out.m2 HH.out.r3 HH.out.m3 HH.out.r4 HH.out.m4 HF1.out).mono ?_; rintro e w10 ⟨rfl, hb⟩; replace HY := Aside0.mk (HY.out.below hb); replace HH := Aside0.mk (HH.out.below hb); replace H6 := Aside0.mk (cell_b hb H6.out); replace H7 := Aside0.mk (cell_b hb H7.out); replace HBW := Aside0.mk (below_step HBW.out hb); clear hb bY; have bY := HY.out.cl)
    try rw [e4]
    clear e1 e2 e3 e5 e6 hif hhh
    go_upto_region 37 with (first | (go_at_call 15; refine (houseOf_calls hr gr t.length (kt.length + 1) (kc.length + 2) (kll t) K2 d2 yt A3' c3' yc V4 k4 _ HH.out.e2 HH.out.e3 HH.out.e4 HH.out.r2 HH.out.r3 HH.out.r4 HLN.out.1 HLN.out.2.1 HLN.out.2.2 cl ti cp HLS.out.1 HLS.out.2.1 HLS.out.2.2).mono ?_; rintro e w11 ⟨B2, b2, B3, b3, B4, b4, rfl, hI, hb⟩; have HHI := Aside0.mk hI; replace HY := Aside0.mk (HY.out.below hb); replace HH := Aside0.mk (HH.out.below hb); replace H6 := Aside0.mk (cell_b hb H6.out); replace H7 := Aside0.mk (cell_b hb H7.out); replace HBW := Aside0.mk (below_step HBW.out hb); clear hI hb bY) | (go_at_call 14; refine (Hours_calls (gi t 0) (gi t 1) (gi t 2) (gi t 3) hr gr _ HHI.out HYI.out.T).mono ?_; rintro e w12 ⟨v27, rfl, hl, hb⟩; have HL := Aside0.mk hl; replace HY := Aside0.mk (HY.out.below hb); replace HH := Aside0.mk (HH.out.below hb); replace H6 := Aside0.mk (cell_b hb H6.out); replace H7 := Aside0.mk (cell_b hb H7.out); replace HBW := Aside0.mk (below_step HBW.out hb); clear hl hb))
    try rw [e4]
    clear e4
    have hln := HYI.out.ln
    obtain ⟨gh, kh, cuh, hvh, hAh, hch0, hch1⟩ := nth65_of_own HL.out kt.length (by omega)
    subst hvh
    rw [HYI.out.h, HHH.out] at hch0 hch1
    rw [hln]
    have HAH := Aside0.mk (And.intro hAh (And.intro hch0 hch1))
    have hfr := HYI.out.f
    rw [← hln, HPL.out.2.2.2.2.2.2.2.1] at hfr
    have HFR := Aside0.mk hfr
    have HN8 := Aside0.mk (show (n0 : Int) ≤ 8 from by have := HPL.out.2.2.2.2.2.1; omega)
    clear hAh hch0 hch1 hln hfr HL HHI
    apply join2 (Fx := fun _ v29 w' => (∃ g, v29 = .pointer (some ⟨g, 0, none⟩) ∧ At w' g #[.int .i64 dn, .int .i64 dn] 65) ∧ Below w12.heap.size w12 w')
    · intro CONT
      refine region_tree (Tree.fork [(0, 0), (2, 0), (3, 0), (4, 0)] 1 9 (Tree.fork [] 5 9 (Tree.seg [(6, 0), (7, 0), (8, 0), (9, 1), (10, 1), (11, 0)]) (Tree.seg [(5, 1), (6, 0), (7, 0), (8, 0), (10, 1), (11, 0)])) (Tree.seg [(1, 1), (5, 1), (6, 0), (7, 0), (8, 0), (10, 1), (11, 0)])) [] (by kernel_rfl) rfl (by kernel_rfl) (by intro _ _ d _ _ h; cases d <;> exact h) ?_
      refine tree_fork ?_
      repeat (first | (refine seq_off (a' := ?_) rfl rfl ?_ ?_; rotate_left; (· simp only [List.getElem_toArray, List.getElem_cons_succ, List.getElem_cons_zero, Act.put, List.setIfInBounds_toArray, List.set_cons_zero, List.set_cons_succ, i64_w, i32_w]; rfl)) | (refine seq_read (v := ?_) (a' := ?_) rfl rfl (fun w' hS => ?_) ?_ ?_; rotate_left 2; (· have bY := (HY.out.below hS).cl; have h6 := cell_b hS H6.out; go_simp; try with_reducible rfl); (· simp only [List.getElem_toArray, List.getElem_cons_succ, List.getElem_cons_zero, Act.put, List.setIfInBounds_toArray, List.set_cons_zero, List.set_cons_succ, i64_w, i32_w]; rfl)))
      refine seq_done ?_
      refine And.intro ?_ ?_
      all_goals refine ⟨_, rfl, fun hS => ?_⟩
      · simp only [List.getElem_toArray, List.getElem_cons_succ, List.getElem_cons_zero]
        go_wp2_with (go_at_call 15; refine (houseOf_calls hr gr t.length (kt.length + 1) (kc.length + 2) (kll t) K2 d2 yt A3' c3' yc V4 k4 _ HH.out.e2 HH.out.e3 HH.out.e4 (Kd.C_below HH.out.r2 hS) (Kd.C_below HH.out.r3 hS) (Kd.C_below HH.out.r4 hS) HLN.out.1 HLN.out.2.1 HLN.out.2.2 cl ti cp HLS.out.1 HLS.out.2.1 HLS.out.2.2).mono ?_; rintro e w5 ⟨B2, b2, B3, b3, B4, b4, rfl, hI, hb⟩)
        have hS5 := below_step hS hb
        refine ⟨hS5, tree_fork ?_⟩
        refine seq_done ?_
        refine And.intro ?_ ?_
        all_goals refine ⟨_, rfl, fun _ => ?_⟩
        · simp only [List.getElem_toArray, List.getElem_cons_succ, List.getElem_cons_zero]
          go_wp2_with (go_at_call 16; refine (Free_calls (gi t 0) (gi t 1) (gi t 2) (gi t 3) hr gr (n0 : Int) _ hI HYI.out.T (by omega) HN8.out HYI.out.o).mono ?_; rw [HFR.out]; rintro e w6 ⟨rfl, hb6⟩)
          have hS6 := below_step hS5 hb6
          refine ⟨hS6, tree_seg ?_⟩
          repeat (first | (refine seq_off (a' := ?_) rfl rfl ?_ ?_; rotate_left; (· simp only [List.getElem_toArray, List.getElem_cons_succ, List.getElem_cons_zero, Act.put, List.setIfInBounds_toArray, List.set_cons_zero, List.set_cons_succ, i64_w, i32_w]; rfl)) | (refine seq_read (v := ?_) (a' := ?_) rfl rfl (fun w' hS => ?_) ?_ ?_; rotate_left 2; (· have bY := (HY.out.below hS).cl; have h6 := cell_b hS H6.out; go_simp; try with_reducible rfl); (· simp only [List.getElem_toArray, List.getElem_cons_succ, List.getElem_cons_zero, Act.put, List.setIfInBounds_toArray, List.set_cons_zero, List.set_cons_succ, i64_w, i32_w]; rfl)))
          refine seq_do rfl (fun _ => ?_)
          simp only [List.getElem_toArray, List.getElem_cons_succ, List.getElem_cons_zero]
          go_wp2
          refine ⟨below_alloc hS6 _, seq_at1 (g := w6.heap.size) (cs := #[.int .i64 0, .int .i64 0]) (t := 65) (below_alloc hS6 _) (At.new w6 _ _) fun w7 hS7 hA7 => ?_⟩
          have hg7 : w12.heap.size ≤ w6.heap.size := hS6.size
          refine seq_do rfl (fun _ => ?_)
          simp only [List.getElem_toArray, List.getElem_cons_succ, List.getElem_cons_zero]
          have bB := hA7.cl
          have fB := hA7.fr
          go_wp2
          have E2 : At ((w7.setCell ⟨w6.heap.size, 0, none⟩ (.int .i64 dn)).setCell ⟨w6.heap.size, 1, none⟩ (.int .i64 dn)) (w6.heap.size) #[.int .i64 dn, .int .i64 dn] 65 := by have := (hA7.set 0 (.int .i64 dn)).set 1 (.int .i64 dn); simpa using this
          have G2 := (hS7.setCell (p := ⟨w6.heap.size, 0, none⟩) hg7 (.int .i64 dn)).setCell (p := ⟨w6.heap.size, 1, none⟩) hg7 (.int .i64 dn)
          clear bB fB
          generalize (w7.setCell ⟨w6.heap.size, 0, none⟩ (.int .i64 dn)).setCell ⟨w6.heap.size, 1, none⟩ (.int .i64 dn) = w9 at E2 G2 ⊢
          refine ⟨G2, ?_⟩
          repeat (first | (refine seq_off (a' := ?_) rfl rfl ?_ ?_; rotate_left; (· simp only [List.getElem_toArray, List.getElem_cons_succ, List.getElem_cons_zero, Act.put, List.setIfInBounds_toArray, List.set_cons_zero, List.set_cons_succ, i64_w, i32_w]; rfl)) | (refine seq_read (v := ?_) (a' := ?_) rfl rfl (fun w' hS => ?_) ?_ ?_; rotate_left 2; (· have bY := (HY.out.below hS).cl; have h6 := cell_b hS H6.out; go_simp; try with_reducible rfl); (· simp only [List.getElem_toArray, List.getElem_cons_succ, List.getElem_cons_zero, Act.put, List.setIfInBounds_toArray, List.set_cons_zero, List.set_cons_succ, i64_w, i32_w]; rfl)))
          refine seq_done ?_
          generalize hvp : (.pointer (some ⟨w6.heap.size, 0, none⟩) : Value) = v29
          generalize (.agg #[.int .i64 hr, .int .i64 gr, .slice B2 cl.length b2, .slice B3 ti.length b3, .slice B4 cp.length b4] : Value) = vH
          exact CONT vH v29 w9 ⟨⟨w6.heap.size, hvp.symm, E2⟩, G2⟩
        · simp only [List.getElem_toArray, List.getElem_cons_succ, List.getElem_cons_zero]
          go_wp2
          refine ⟨below_alloc hS5 _, tree_at2 (g := w5.heap.size) (cs := #[.int .i64 0, .int .i64 0]) (t := 65) (below_alloc hS5 _) (below_alloc (Below.refl w5.heap.size w5) _) (At.new w5 _ _) fun w6 hS6 hb6 hA6 => ?_⟩
          have hI6 := hI.below hb6
          have hg7 : w12.heap.size ≤ w5.heap.size := hS5.size
          refine tree_seg ?_
          refine seq_do rfl (fun _ => ?_)
          simp only [List.getElem_toArray, List.getElem_cons_succ, List.getElem_cons_zero]
          go_wp2_with (go_at_call 16; refine (Free_calls (gi t 0) (gi t 1) (gi t 2) (gi t 3) hr gr (n0 : Int) _ hI6 HYI.out.T (by omega) HN8.out HYI.out.o).mono ?_; rw [HFR.out]; rintro e w7 ⟨rfl, hb7⟩)
          have hS7 := below_step hS6 hb7
          have hA7 := hA6.below hb7
          refine ⟨hS7, ?_⟩
          repeat (first | (refine seq_off (a' := ?_) rfl rfl ?_ ?_; rotate_left; (· simp only [List.getElem_toArray, List.getElem_cons_succ, List.getElem_cons_zero, Act.put, List.setIfInBounds_toArray, List.set_cons_zero, List.set_cons_succ, i64_w, i32_w]; rfl)) | (refine seq_read (v := ?_) (a' := ?_) rfl rfl (fun w' hS => ?_) ?_ ?_; rotate_left 2; (· have bY := (HY.out.below hS).cl; have h6 := cell_b hS H6.out; go_simp; try with_reducible rfl); (· simp only [List.getElem_toArray, List.getElem_cons_succ, List.getElem_cons_zero, Act.put, List.setIfInBounds_toArray, List.set_cons_zero, List.set_cons_succ, i64_w, i32_w]; rfl)))
          refine seq_do rfl (fun _ => ?_)
          simp only [List.getElem_toArray, List.getElem_cons_succ, List.getElem_cons_zero]
          have bB := hA7.cl
          have fB := hA7.fr
          go_wp2
          have E2 : At ((w7.setCell ⟨w5.heap.size, 0, none⟩ (.int .i64 dn)).setCell ⟨w5.heap.size, 1, none⟩ (.int .i64 dn)) (w5.heap.size) #[.int .i64 dn, .int .i64 dn] 65 := by have := (hA7.set 0 (.int .i64 dn)).set 1 (.int .i64 dn); simpa using this
          have G2 := (hS7.setCell (p := ⟨w5.heap.size, 0, none⟩) hg7 (.int .i64 dn)).setCell (p := ⟨w5.heap.size, 1, none⟩) hg7 (.int .i64 dn)
          clear bB fB
          generalize (w7.setCell ⟨w5.heap.size, 0, none⟩ (.int .i64 dn)).setCell ⟨w5.heap.size, 1, none⟩ (.int .i64 dn) = w9 at E2 G2 ⊢
          refine ⟨G2, ?_⟩
          repeat (first | (refine seq_off (a' := ?_) rfl rfl ?_ ?_; rotate_left; (· simp only [List.getElem_toArray, List.getElem_cons_succ, List.getElem_cons_zero, Act.put, List.setIfInBounds_toArray, List.set_cons_zero, List.set_cons_succ, i64_w, i32_w]; rfl)) | (refine seq_read (v := ?_) (a' := ?_) rfl rfl (fun w' hS => ?_) ?_ ?_; rotate_left 2; (· have bY := (HY.out.below hS).cl; have h6 := cell_b hS H6.out; go_simp; try with_reducible rfl); (· simp only [List.getElem_toArray, List.getElem_cons_succ, List.getElem_cons_zero, Act.put, List.setIfInBounds_toArray, List.set_cons_zero, List.set_cons_succ, i64_w, i32_w]; rfl)))
          refine seq_done ?_
          generalize hvp : (.pointer (some ⟨w5.heap.size, 0, none⟩) : Value) = v29
          generalize (.agg #[.int .i64 hr, .int .i64 gr, .slice B2 cl.length b2, .slice B3 ti.length b3, .slice B4 cp.length b4] : Value) = vH
          exact CONT vH v29 w9 ⟨⟨w5.heap.size, hvp.symm, E2⟩, G2⟩
      · simp only [List.getElem_toArray, List.getElem_cons_succ, List.getElem_cons_zero]
        go_wp2
        refine ⟨below_alloc hS _, tree_at1 (g := w12.heap.size) (cs := #[.int .i64 0, .int .i64 0]) (t := 65) (below_alloc hS _) (by first | exact At.new w12.drew _ _ | exact (At.new w12 _ _).drew) fun w4 hS4 hA4 => ?_⟩
        clear hS
        have hg7 : w12.heap.size ≤ w12.heap.size := Nat.le_refl _
        refine tree_seg ?_
        refine seq_do rfl (fun _ => ?_)
        simp only [List.getElem_toArray, List.getElem_cons_succ, List.getElem_cons_zero]
        go_wp2_with (go_at_call 15; refine (houseOf_calls hr gr t.length (kt.length + 1) (kc.length + 2) (kll t) K2 d2 yt A3' c3' yc V4 k4 _ HH.out.e2 HH.out.e3 HH.out.e4 (Kd.C_below HH.out.r2 hS4) (Kd.C_below HH.out.r3 hS4) (Kd.C_below HH.out.r4 hS4) HLN.out.1 HLN.out.2.1 HLN.out.2.2 cl ti cp HLS.out.1 HLS.out.2.1 HLS.out.2.2).mono ?_; rintro e w5 ⟨B2, b2, B3, b3, B4, b4, rfl, hI, hb⟩)
        have hS5 := below_step hS4 hb
        have hA5 := hA4.below hb
        refine ⟨hS5, ?_⟩
        refine seq_do rfl (fun _ => ?_)
        simp only [List.getElem_toArray, List.getElem_cons_succ, List.getElem_cons_zero]
        go_wp2_with (go_at_call 16; refine (Free_calls (gi t 0) (gi t 1) (gi t 2) (gi t 3) hr gr (n0 : Int) _ hI HYI.out.T (by omega) HN8.out HYI.out.o).mono ?_; rw [HFR.out]; rintro e w7 ⟨rfl, hb7⟩)
        have hS7 := below_step hS5 hb7
        have hA7 := hA5.below hb7
        refine ⟨hS7, ?_⟩
        repeat (first | (refine seq_off (a' := ?_) rfl rfl ?_ ?_; rotate_left; (· simp only [List.getElem_toArray, List.getElem_cons_succ, List.getElem_cons_zero, Act.put, List.setIfInBounds_toArray, List.set_cons_zero, List.set_cons_succ, i64_w, i32_w]; rfl)) | (refine seq_read (v := ?_) (a' := ?_) rfl rfl (fun w' hS => ?_) ?_ ?_; rotate_left 2; (· have bY := (HY.out.below hS).cl; have h6 := cell_b hS H6.out; go_simp; try with_reducible rfl); (· simp only [List.getElem_toArray, List.getElem_cons_succ, List.getElem_cons_zero, Act.put, List.setIfInBounds_toArray, List.set_cons_zero, List.set_cons_succ, i64_w, i32_w]; rfl)))
        refine seq_do rfl (fun _ => ?_)
        simp only [List.getElem_toArray, List.getElem_cons_succ, List.getElem_cons_zero]
        have bB := hA7.cl
        have fB := hA7.fr
        go_wp2
        have E2 : At ((w7.setCell ⟨w12.heap.size, 0, none⟩ (.int .i64 dn)).setCell ⟨w12.heap.size, 1, none⟩ (.int .i64 dn)) (w12.heap.size) #[.int .i64 dn, .int .i64 dn] 65 := by have := (hA7.set 0 (.int .i64 dn)).set 1 (.int .i64 dn); simpa using this
        have G2 := (hS7.setCell (p := ⟨w12.heap.size, 0, none⟩) hg7 (.int .i64 dn)).setCell (p := ⟨w12.heap.size, 1, none⟩) hg7 (.int .i64 dn)
        clear bB fB
        generalize (w7.setCell ⟨w12.heap.size, 0, none⟩ (.int .i64 dn)).setCell ⟨w12.heap.size, 1, none⟩ (.int .i64 dn) = w9 at E2 G2 ⊢
        refine ⟨G2, ?_⟩
        repeat (first | (refine seq_off (a' := ?_) rfl rfl ?_ ?_; rotate_left; (· simp only [List.getElem_toArray, List.getElem_cons_succ, List.getElem_cons_zero, Act.put, List.setIfInBounds_toArray, List.set_cons_zero, List.set_cons_succ, i64_w, i32_w]; rfl)) | (refine seq_read (v := ?_) (a' := ?_) rfl rfl (fun w' hS => ?_) ?_ ?_; rotate_left 2; (· have bY := (HY.out.below hS).cl; have h6 := cell_b hS H6.out; go_simp; try with_reducible rfl); (· simp only [List.getElem_toArray, List.getElem_cons_succ, List.getElem_cons_zero, Act.put, List.setIfInBounds_toArray, List.set_cons_zero, List.set_cons_succ, i64_w, i32_w]; rfl)))
        refine seq_done ?_
        generalize hvp : (.pointer (some ⟨w12.heap.size, 0, none⟩) : Value) = v29
        generalize (.agg #[.int .i64 hr, .int .i64 gr, .slice B2 cl.length b2, .slice B3 ti.length b3, .slice B4 cp.length b4] : Value) = vH
        exact CONT vH v29 w9 ⟨⟨w12.heap.size, hvp.symm, E2⟩, G2⟩
    · intro vH v29 w13 hF
      obtain ⟨⟨g29, hvp, hA29⟩, hb13⟩ := hF
      subst hvp
      rename_i aK
      exact aK _ _ (tail38 rfl (below_then HBW.out HBW.out.size hb13) (HY.out.below hb13) (HH.out.below hb13) HLN.out HLS.out HYI.out (cell_b hb13 H7.out) ⟨HAH.out.1.below hb13, HAH.out.2⟩ hA29 _ rfl)
  · have HQ := Aside0.mk (show (rf != 0) = true from by simpa using hr0)
    clear hr0 hf2 hyt hyc hkk V IT OP hop hn0 hlg hdn hk hbb hee
    have bY := HY.out.cl
    go_wp2_with (first | (go_at_call 13; refine (faultOf_calls kk hr gr t.length (kt.length + 1) (kc.length + 2) K2 d2 (kll t) A3' c3' yt V4 k4 yc _ _ HH.out.e2 HH.out.e3 HH.out.e4 HH.out.r2 HH.out.m2 HH.out.r3 HH.out.m3 HH.out.r4 HH.out.m4 HF1.out).mono ?_; rintro e w10 ⟨rfl, hb⟩; replace HY := Aside0.mk (HY.out.below hb); replace HH := Aside0.mk (HH.out.below hb); replace H6 := Aside0.mk (cell_b hb H6.out); replace H7 := Aside0.mk (cell_b hb H7.out); replace HBW := Aside0.mk (below_step HBW.out hb); clear hb bY; have bY := HY.out.cl; have hq := HQ.out) | (go_at_call 6; refine (washed_calls _).mono ?_; rintro e w11 ⟨rfl, hb⟩; replace HBW := Aside0.mk (below_step HBW.out hb); clear hb bY))
    go_ret
    exact ⟨rfl, HBW.out⟩

end Go.Proofs.Ytgdbnioodimlfaa.Wk
