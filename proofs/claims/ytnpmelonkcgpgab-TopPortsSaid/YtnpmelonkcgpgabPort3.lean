/- ported11, the acts that give a port back, or ask how many are free. -/
import Derived.Test.YtnpmelonkcgpgabPort2
namespace Go.Proofs.Ytnpmelonkcgpgab
open Go.RowKit
set_option linter.unusedVariables false
set_option linter.unusedSimpArgs false
attribute [local go_sem ↓] Go.wp_at_zero Go.wp_at_succ

section
variable {w wr : World} {pb pt pu xb xt xf bb c n i : Nat} {A : Option Addr} {p : PoolS} {x : NoteS} {lo hi rest many kd wh tk : Int}

theorem step_give_arg (hk : kd % 6 = 2 ∨ kd % 6 = 3) (hn : 1099511627776 < actNow x.now tk) : noteStep x (kd, wh, tk) = (x, 0) := by
  have h0 : ¬ (kd % 6 = 0 ∨ kd % 6 = 1) := by omega
  simp only [noteStep, if_neg h0, if_pos hk, if_pos hn]
theorem step_give_none (hk : kd % 6 = 2 ∨ kd % 6 = 3) (hn : ¬ 1099511627776 < actNow x.now tk) (h : aget (actPort x.low x.high wh) false x.taken = false) : noteStep x (kd, wh, tk) = (x, 0) := by
  have h0 : ¬ (kd % 6 = 0 ∨ kd % 6 = 1) := by omega
  simp only [noteStep, if_neg h0, if_pos hk, if_neg hn, if_pos h]
theorem step_give_ok (hk : kd % 6 = 2 ∨ kd % 6 = 3) (hn : ¬ 1099511627776 < actNow x.now tk) (h : ¬ aget (actPort x.low x.high wh) false x.taken = false) :
    noteStep x (kd, wh, tk) = ({ x with now := max (actNow x.now tk) x.now, taken := aput (actPort x.low x.high wh) false x.taken, fre := aput (actPort x.low x.high wh) (max (actNow x.now tk) x.now + x.rest) x.fre }, 0) := by
  have h0 : ¬ (kd % 6 = 0 ∨ kd % 6 = 1) := by omega
  simp only [noteStep, if_neg h0, if_pos hk, if_neg hn, if_neg h]
theorem step_free_arg (hk : kd % 6 = 4) (hn : 1099511627776 < actNow x.now tk) : noteStep x (kd, wh, tk) = (x, 0) := by
  have h0 : ¬ (kd % 6 = 0 ∨ kd % 6 = 1) := by omega
  have h1 : ¬ (kd % 6 = 2 ∨ kd % 6 = 3) := by omega
  simp only [noteStep, if_neg h0, if_neg h1, if_pos hk, if_pos hn]
theorem step_free_ok (hk : kd % 6 = 4) (hn : ¬ 1099511627776 < actNow x.now tk) : noteStep x (kd, wh, tk) = ({ x with now := max (actNow x.now tk) x.now }, 0) := by
  have h0 : ¬ (kd % 6 = 0 ∨ kd % 6 = 1) := by omega
  have h1 : ¬ (kd % 6 = 2 ∨ kd % 6 = 3) := by omega
  simp only [noteStep, if_neg h0, if_neg h1, if_pos hk, if_neg hn]


theorem port_bounds (hl : Lim lo hi rest kd wh tk) : 0 ≤ actPort lo hi wh ∧ actPort lo hi wh ≤ 65535 := by
  obtain ⟨l0, l1, l2, r0, r1, kd0, kd1, w0, w1, t0, t1⟩ := hl
  unfold actPort
  have h1 := Int.emod_nonneg wh (show hi - lo + 3 ≠ 0 by omega)
  have h2 := Int.emod_lt_of_pos wh (show 0 < hi - lo + 3 by omega)
  omega

set_option maxRecDepth 100000 in
theorem kind_give_arg {u0 u1 u3 u4 u5 u6 u7 u8 u9 u11 u14 u19 u20 u21 u22 u23 u24 u25 u26 u27 u28 u29 u30 u31 u32 u33 u34 u35 u36 u37 u38 u39 u40 u41 u42 u43 u44 u45 u46 u47 u48 u49 u50 u51 u52 u53 u54 u55 u56 u57 u58 u59 u60 u61 u62 u63 u64 u65 u66 u67 u68 u72 u73 u74 u75 u76 u77 u78 u79 u80 u81 u82 u83 u84 u85 u86 u87 u88 u89 u90 u91 u92 u93 u94 u95 u96 u97 u98 u99 u100 u101 u102 u103 u104 u105 u106 u107 u108 u109 u110 u111 u112 u113 u114 u115 u116 u117 u118 u119 u120 u121 u122 u123 u124 u125 u126 u127 u128 u129 u130 u131 u132 u133 u134 u135 u136 u137 u138 u139 u140 u141 u142 u143 u144 u145 u146 u147 u148 u149 u150 u151 u152 u153 u154 u155 u156 u157 u158 u159 u160 u161 u162 u163 u164 u165 u166 u167 u168 u169 u170 u171 u172 u173 u174 u175 u176 u177 u178 u179 u180 u181 u182 u183 u184 u185 u186 u187 u188 u189 u190 u191 u192 u193 u194 u195 u196 u197 u198 u199 u200 u201 u202 u203 u204 u205 u206 u207 u208 u209 u210 u211 u212 u213 u214 u215 u216 u217 u218 u219 u220 u221 u222 u223 u224 u225 u226 u227 u228 u229 u230 u231 u232 u233 u234 u235 u236 u237 u238 u239 u240 u241 u242 u243 u244 u245 u246 u247 u248 u249 u250 u251 u252 u253 u254 u255 u256 u257 u258 u259 u260 u261 u262 u263 u264 u265 u266 u267 u268 u269 u270 u271 u272 u273 u274 u275 u276 u277 u278 u279 u280 u281 u282 u283 u284 u285 u286 u287 u288 u289 u290 u291 u292 u293 u294 u295 u296 u297 u298 u299 u300 u301 u302 u303 u304 u305 u306 u307 u308 u309 u310 u311 u312 u313 u314 u315 u316 u317 u318 u319 u320 u321 u322 u323 u324 u325 u326 u327 u328 u329 u330 u331 u332 : Value} (h : Amid w wr pb pt pu xb xt xf bb p x kd wh tk) (hg : Goes lo hi rest p x) (hl : Lim lo hi rest kd wh tk) (hk : kd % 6 = 2 ∨ kd % 6 = 3) (hn : 1099511627776 < actNow x.now tk) :
    Code.wp Try.prog (codeAt (fbody Try.f5) [1,1,1,1,1,1,0,1,0,0,1,1,0,0,1,1,1,1,1,0]) (Exit.then (Out (fun a' => (a'.defers = [] ∧ a'.tmps.size = 333 ∧ a'.tmps[2]? = some (.int .u64 rest) ∧ a'.tmps[10]? = some (.pointer (some ⟨pb, 0, none⟩)) ∧ a'.tmps[12]? = some (.pointer (some ⟨xb, 0, none⟩)) ∧ a'.tmps[13]? = some (.int .i64 (many + (noteStep x (kd, wh, tk)).2)) ∧ a'.tmps[69]? = some (.slice A n c) ∧ a'.tmps[70]? = some (.int .i64 n) ∧ a'.tmps[71]? = some (.int .i64 i))) (fun w' => Did w w' pb pt pu xb xt xf lo hi rest (noteStep x (kd, wh, tk)).1)) Never) (⟨#[u0, u1, .int .u64 rest, u3, u4, u5, u6, u7, u8, u9, .pointer (some ⟨pb, 0, none⟩), u11, .pointer (some ⟨xb, 0, none⟩), .int .i64 many, u14, .pointer (some ⟨bb, 0, none⟩), .int .u64 (actNow x.now tk), .int .u64 (max (actNow x.now tk) x.now), .int .i64 (actPort lo hi wh), u19, u20, u21, u22, u23, u24, u25, u26, u27, u28, u29, u30, u31, u32, u33, u34, u35, u36, u37, u38, u39, u40, u41, u42, u43, u44, u45, u46, u47, u48, u49, u50, u51, u52, u53, u54, u55, u56, u57, u58, u59, u60, u61, u62, u63, u64, u65, u66, u67, u68, .slice A n c, .int .i64 n, .int .i64 i, u72, u73, u74, u75, u76, u77, u78, u79, u80, u81, u82, u83, u84, u85, u86, u87, u88, u89, u90, u91, u92, u93, u94, u95, u96, u97, u98, u99, u100, u101, u102, u103, u104, u105, u106, u107, u108, u109, u110, u111, u112, u113, u114, u115, u116, u117, u118, u119, u120, u121, u122, u123, u124, u125, u126, u127, u128, u129, u130, u131, u132, u133, u134, u135, u136, u137, u138, u139, u140, u141, u142, u143, u144, u145, u146, u147, u148, u149, u150, u151, u152, u153, u154, u155, u156, u157, u158, u159, u160, u161, u162, u163, u164, u165, u166, u167, u168, u169, u170, u171, u172, u173, u174, u175, u176, u177, u178, u179, u180, u181, u182, u183, u184, u185, u186, u187, u188, u189, u190, u191, u192, u193, u194, u195, u196, u197, u198, u199, u200, u201, u202, u203, u204, u205, u206, u207, u208, u209, u210, u211, u212, u213, u214, u215, u216, u217, u218, u219, u220, u221, u222, u223, u224, u225, u226, u227, u228, u229, u230, u231, u232, u233, u234, u235, u236, u237, u238, u239, u240, u241, u242, u243, u244, u245, u246, u247, u248, u249, u250, u251, u252, u253, u254, u255, u256, u257, u258, u259, u260, u261, u262, u263, u264, u265, u266, u267, u268, u269, u270, u271, u272, u273, u274, u275, u276, u277, u278, u279, u280, u281, u282, u283, u284, u285, u286, u287, u288, u289, u290, u291, u292, u293, u294, u295, u296, u297, u298, u299, u300, u301, u302, u303, u304, u305, u306, u307, u308, u309, u310, u311, u312, u313, u314, u315, u316, u317, u318, u319, u320, u321, u322, u323, u324, u325, u326, u327, u328, u329, u330, u331, u332], []⟩ : Act) wr := by
  have k0 := h.2.cell 0
  have hpb := port_bounds hl
  obtain ⟨l0, l1, l2, r0, r1, kd0, kd1, w0, w1, t0, t1⟩ := hl
  simp only [step_give_arg hk hn, Int.add_zero]
  have H := Lib.hid h
  have Hg := Lib.hid hg
  have hk' : kd.tmod 6 = kd % 6 := Int.tmod_eq_emod_of_nonneg kd0
  clear h hg
  conv => arg 2; whnf
  rcases hk with hk | hk
  all_goals
    rw [hk] at hk'
    generalize actPort lo hi wh = port at *
    generalize actNow x.now tk = now at *
    generalize max now x.now = at_ at *
    go_wp2_with (go_at_call 8; have hp := H.out.1.pool; (with_reducible refine (give_arg _ _ _ p port now _ hp hn).mono ?_); clear hp; rintro e w' ⟨rfl, rfl⟩)
    exact ⟨⟨rfl, rfl, rfl, rfl, rfl, rfl, rfl, rfl, rfl⟩, ⟨_, H.out.1, Hg.out⟩⟩

set_option maxRecDepth 100000 in
theorem kind_give_none {u0 u1 u3 u4 u5 u6 u7 u8 u9 u11 u14 u19 u20 u21 u22 u23 u24 u25 u26 u27 u28 u29 u30 u31 u32 u33 u34 u35 u36 u37 u38 u39 u40 u41 u42 u43 u44 u45 u46 u47 u48 u49 u50 u51 u52 u53 u54 u55 u56 u57 u58 u59 u60 u61 u62 u63 u64 u65 u66 u67 u68 u72 u73 u74 u75 u76 u77 u78 u79 u80 u81 u82 u83 u84 u85 u86 u87 u88 u89 u90 u91 u92 u93 u94 u95 u96 u97 u98 u99 u100 u101 u102 u103 u104 u105 u106 u107 u108 u109 u110 u111 u112 u113 u114 u115 u116 u117 u118 u119 u120 u121 u122 u123 u124 u125 u126 u127 u128 u129 u130 u131 u132 u133 u134 u135 u136 u137 u138 u139 u140 u141 u142 u143 u144 u145 u146 u147 u148 u149 u150 u151 u152 u153 u154 u155 u156 u157 u158 u159 u160 u161 u162 u163 u164 u165 u166 u167 u168 u169 u170 u171 u172 u173 u174 u175 u176 u177 u178 u179 u180 u181 u182 u183 u184 u185 u186 u187 u188 u189 u190 u191 u192 u193 u194 u195 u196 u197 u198 u199 u200 u201 u202 u203 u204 u205 u206 u207 u208 u209 u210 u211 u212 u213 u214 u215 u216 u217 u218 u219 u220 u221 u222 u223 u224 u225 u226 u227 u228 u229 u230 u231 u232 u233 u234 u235 u236 u237 u238 u239 u240 u241 u242 u243 u244 u245 u246 u247 u248 u249 u250 u251 u252 u253 u254 u255 u256 u257 u258 u259 u260 u261 u262 u263 u264 u265 u266 u267 u268 u269 u270 u271 u272 u273 u274 u275 u276 u277 u278 u279 u280 u281 u282 u283 u284 u285 u286 u287 u288 u289 u290 u291 u292 u293 u294 u295 u296 u297 u298 u299 u300 u301 u302 u303 u304 u305 u306 u307 u308 u309 u310 u311 u312 u313 u314 u315 u316 u317 u318 u319 u320 u321 u322 u323 u324 u325 u326 u327 u328 u329 u330 u331 u332 : Value} (h : Amid w wr pb pt pu xb xt xf bb p x kd wh tk) (hg : Goes lo hi rest p x) (hl : Lim lo hi rest kd wh tk) (hk : kd % 6 = 2 ∨ kd % 6 = 3) (hn : ¬ 1099511627776 < actNow x.now tk)
    (hf : aget (actPort x.low x.high wh) false x.taken = false) :
    Code.wp Try.prog (codeAt (fbody Try.f5) [1,1,1,1,1,1,0,1,0,0,1,1,0,0,1,1,1,1,1,0]) (Exit.then (Out (fun a' => (a'.defers = [] ∧ a'.tmps.size = 333 ∧ a'.tmps[2]? = some (.int .u64 rest) ∧ a'.tmps[10]? = some (.pointer (some ⟨pb, 0, none⟩)) ∧ a'.tmps[12]? = some (.pointer (some ⟨xb, 0, none⟩)) ∧ a'.tmps[13]? = some (.int .i64 (many + (noteStep x (kd, wh, tk)).2)) ∧ a'.tmps[69]? = some (.slice A n c) ∧ a'.tmps[70]? = some (.int .i64 n) ∧ a'.tmps[71]? = some (.int .i64 i))) (fun w' => Did w w' pb pt pu xb xt xf lo hi rest (noteStep x (kd, wh, tk)).1)) Never) (⟨#[u0, u1, .int .u64 rest, u3, u4, u5, u6, u7, u8, u9, .pointer (some ⟨pb, 0, none⟩), u11, .pointer (some ⟨xb, 0, none⟩), .int .i64 many, u14, .pointer (some ⟨bb, 0, none⟩), .int .u64 (actNow x.now tk), .int .u64 (max (actNow x.now tk) x.now), .int .i64 (actPort lo hi wh), u19, u20, u21, u22, u23, u24, u25, u26, u27, u28, u29, u30, u31, u32, u33, u34, u35, u36, u37, u38, u39, u40, u41, u42, u43, u44, u45, u46, u47, u48, u49, u50, u51, u52, u53, u54, u55, u56, u57, u58, u59, u60, u61, u62, u63, u64, u65, u66, u67, u68, .slice A n c, .int .i64 n, .int .i64 i, u72, u73, u74, u75, u76, u77, u78, u79, u80, u81, u82, u83, u84, u85, u86, u87, u88, u89, u90, u91, u92, u93, u94, u95, u96, u97, u98, u99, u100, u101, u102, u103, u104, u105, u106, u107, u108, u109, u110, u111, u112, u113, u114, u115, u116, u117, u118, u119, u120, u121, u122, u123, u124, u125, u126, u127, u128, u129, u130, u131, u132, u133, u134, u135, u136, u137, u138, u139, u140, u141, u142, u143, u144, u145, u146, u147, u148, u149, u150, u151, u152, u153, u154, u155, u156, u157, u158, u159, u160, u161, u162, u163, u164, u165, u166, u167, u168, u169, u170, u171, u172, u173, u174, u175, u176, u177, u178, u179, u180, u181, u182, u183, u184, u185, u186, u187, u188, u189, u190, u191, u192, u193, u194, u195, u196, u197, u198, u199, u200, u201, u202, u203, u204, u205, u206, u207, u208, u209, u210, u211, u212, u213, u214, u215, u216, u217, u218, u219, u220, u221, u222, u223, u224, u225, u226, u227, u228, u229, u230, u231, u232, u233, u234, u235, u236, u237, u238, u239, u240, u241, u242, u243, u244, u245, u246, u247, u248, u249, u250, u251, u252, u253, u254, u255, u256, u257, u258, u259, u260, u261, u262, u263, u264, u265, u266, u267, u268, u269, u270, u271, u272, u273, u274, u275, u276, u277, u278, u279, u280, u281, u282, u283, u284, u285, u286, u287, u288, u289, u290, u291, u292, u293, u294, u295, u296, u297, u298, u299, u300, u301, u302, u303, u304, u305, u306, u307, u308, u309, u310, u311, u312, u313, u314, u315, u316, u317, u318, u319, u320, u321, u322, u323, u324, u325, u326, u327, u328, u329, u330, u331, u332], []⟩ : Act) wr := by
  obtain ⟨n0, n1, n2, n3, n4, n5, n6⟩ := h.1.note.cells
  have k0 := h.2.cell 0
  have hpb := port_bounds hl
  obtain ⟨l0, l1, l2, r0, r1, kd0, kd1, w0, w1, t0, t1⟩ := hl
  simp only [step_give_none hk hn hf, Int.add_zero]
  have lk := h.1.note.2.1.look (int_key (P := Try.prog) Try.underlying3) Try.underlying40 zero4 (actPort x.low x.high wh)
  rw [hf] at lk
  rw [hg.xl, hg.xh] at lk hf
  rw [← hg.tk] at hf
  have E1 := Lib.hid hf
  have H := Lib.hid h
  have Hg := Lib.hid hg
  have hk' : kd.tmod 6 = kd % 6 := Int.tmod_eq_emod_of_nonneg kd0
  clear h hg hf n0 n1 n2 n4 n5 n6
  conv => arg 2; whnf
  rcases hk with hk | hk
  all_goals
    rw [hk] at hk'
    generalize actPort lo hi wh = port at *
    generalize actNow x.now tk = now at *
    generalize max now x.now = at_ at *
    go_wp2_with (go_at_call 8; have hp := H.out.1.pool; have hE := E1.out; (with_reducible refine (give_none _ _ _ p port now _ hp hn hE).mono ?_); clear hp hE; rintro e w' ⟨rfl, rfl⟩)
    exact ⟨⟨rfl, rfl, rfl, rfl, rfl, rfl, rfl, rfl, rfl⟩, ⟨_, H.out.1, Hg.out⟩⟩

/-- The two maps of the noter, where they are. -/
def Maps2 (w : World) (xb xt xf : Nat) : Prop := w.cell? ⟨xb, 3, none⟩ = some (.map (some xt)) ∧ w.cell? ⟨xb, 4, none⟩ = some (.map (some xf))

/-- Giving a port of the noter's back, in steps, with a draw behind each. -/
theorem St.give_ (h : St w wr pb pt pu xb xt xf p x) (v k r : Int) :
    ∃ w1 w2 w3 w4 s1 s2 v1 v2, (Instr.mapEntry 40 (.map (some xt)) (.int .i64 k)).run Try.prog (wr.setCell ⟨xb, 5, none⟩ (.int .u64 v)).drew = .ok (.tuple #[v1, .int .i64 ((s1 : Nat) : Int)]) w1 ∧
      (Instr.entryStore 40 (.map (some xt)) (.int .i64 ((s1 : Nat) : Int)) (.bool false)).run Try.prog w1 = .ok () w2 ∧
      (Instr.mapEntry 41 (.map (some xf)) (.int .i64 k)).run Try.prog w2 = .ok (.tuple #[v2, .int .i64 ((s2 : Nat) : Int)]) w3 ∧
      (Instr.entryStore 41 (.map (some xf)) (.int .i64 ((s2 : Nat) : Int)) (.int .u64 r)).run Try.prog w3 = .ok () w4 ∧
      St w w4 pb pt pu xb xt xf p { x with now := v, taken := aput k false x.taken, fre := aput k r x.fre } ∧
      Maps2 (wr.setCell ⟨xb, 5, none⟩ (.int .u64 v)).drew xb xt xf ∧ Maps2 w1 xb xt xf ∧ Maps2 w2 xb xt xf ∧ Maps2 w3 xb xt xf ∧ Maps2 w4 xb xt xf := by
  have h1 := (h.now_ v).drewN 1
  obtain ⟨w1, st, r1, t1, rest⟩ := h1.note.2.1.entry (int_key (P := Try.prog) Try.underlying3) Try.underlying40 zero4 k
  obtain ⟨w2, r2, m2, t2⟩ := rest w1 false rfl
  have o1 : Only [xt] _ w1 := t1.only (by simp)
  have ho : Only [xt] _ w2 := o1.trans (t2.only (by simp))
  have hb := h1.note.1
  have hne := h1.note.2.2.2
  have hu := h1.note.2.2.1.only ho (by simpa using hne.symm)
  obtain ⟨w3, st2, r3, t3, rest⟩ := hu.entry (int_key (P := Try.prog) Try.underlying3) Try.underlying41 zero25 k
  obtain ⟨w4, r4, m4, t4⟩ := rest w3 r rfl
  have o3 : Only [xf] w2 w3 := t3.only (by simp)
  have ho2 : Only [xf] w2 w4 := o3.trans (t4.only (by simp))
  have hxt : xb ∉ [xt] := by simpa using (h1.note.2.1.ne_blk hb).symm
  have hb1 := hb.only o1 hxt
  have hb2 := hb.only ho hxt
  have hxf : xb ∉ [xf] := by simpa using (hu.ne_blk hb2).symm
  have hb3 := hb2.only o3 hxf
  have hb4 := hb2.only ho2 hxf
  exact ⟨w1, w2, w3, w4, st, st2, _, _, r1, r2, r3, r4, h1.note' ((ho.mono (by simp)).trans (ho2.mono (by simp))) ⟨hb4, m2.only ho2 (by simpa using hne), m4, hne⟩,
    ⟨hb.cell 3, hb.cell 4⟩, ⟨hb1.cell 3, hb1.cell 4⟩, ⟨hb2.cell 3, hb2.cell 4⟩, ⟨hb3.cell 3, hb3.cell 4⟩, ⟨hb4.cell 3, hb4.cell 4⟩⟩

set_option maxRecDepth 100000 in
set_option maxHeartbeats 1000000 in
theorem kind_give_ok {u0 u1 u3 u4 u5 u6 u7 u8 u9 u11 u14 u19 u20 u21 u22 u23 u24 u25 u26 u27 u28 u29 u30 u31 u32 u33 u34 u35 u36 u37 u38 u39 u40 u41 u42 u43 u44 u45 u46 u47 u48 u49 u50 u51 u52 u53 u54 u55 u56 u57 u58 u59 u60 u61 u62 u63 u64 u65 u66 u67 u68 u72 u73 u74 u75 u76 u77 u78 u79 u80 u81 u82 u83 u84 u85 u86 u87 u88 u89 u90 u91 u92 u93 u94 u95 u96 u97 u98 u99 u100 u101 u102 u103 u104 u105 u106 u107 u108 u109 u110 u111 u112 u113 u114 u115 u116 u117 u118 u119 u120 u121 u122 u123 u124 u125 u126 u127 u128 u129 u130 u131 u132 u133 u134 u135 u136 u137 u138 u139 u140 u141 u142 u143 u144 u145 u146 u147 u148 u149 u150 u151 u152 u153 u154 u155 u156 u157 u158 u159 u160 u161 u162 u163 u164 u165 u166 u167 u168 u169 u170 u171 u172 u173 u174 u175 u176 u177 u178 u179 u180 u181 u182 u183 u184 u185 u186 u187 u188 u189 u190 u191 u192 u193 u194 u195 u196 u197 u198 u199 u200 u201 u202 u203 u204 u205 u206 u207 u208 u209 u210 u211 u212 u213 u214 u215 u216 u217 u218 u219 u220 u221 u222 u223 u224 u225 u226 u227 u228 u229 u230 u231 u232 u233 u234 u235 u236 u237 u238 u239 u240 u241 u242 u243 u244 u245 u246 u247 u248 u249 u250 u251 u252 u253 u254 u255 u256 u257 u258 u259 u260 u261 u262 u263 u264 u265 u266 u267 u268 u269 u270 u271 u272 u273 u274 u275 u276 u277 u278 u279 u280 u281 u282 u283 u284 u285 u286 u287 u288 u289 u290 u291 u292 u293 u294 u295 u296 u297 u298 u299 u300 u301 u302 u303 u304 u305 u306 u307 u308 u309 u310 u311 u312 u313 u314 u315 u316 u317 u318 u319 u320 u321 u322 u323 u324 u325 u326 u327 u328 u329 u330 u331 u332 : Value} (h : Amid w wr pb pt pu xb xt xf bb p x kd wh tk) (hg : Goes lo hi rest p x) (hl : Lim lo hi rest kd wh tk) (hk : kd % 6 = 2 ∨ kd % 6 = 3) (hn : ¬ 1099511627776 < actNow x.now tk)
    (hf : ¬ aget (actPort x.low x.high wh) false x.taken = false) :
    Code.wp Try.prog (codeAt (fbody Try.f5) [1,1,1,1,1,1,0,1,0,0,1,1,0,0,1,1,1,1,1,0]) (Exit.then (Out (fun a' => (a'.defers = [] ∧ a'.tmps.size = 333 ∧ a'.tmps[2]? = some (.int .u64 rest) ∧ a'.tmps[10]? = some (.pointer (some ⟨pb, 0, none⟩)) ∧ a'.tmps[12]? = some (.pointer (some ⟨xb, 0, none⟩)) ∧ a'.tmps[13]? = some (.int .i64 (many + (noteStep x (kd, wh, tk)).2)) ∧ a'.tmps[69]? = some (.slice A n c) ∧ a'.tmps[70]? = some (.int .i64 n) ∧ a'.tmps[71]? = some (.int .i64 i))) (fun w' => Did w w' pb pt pu xb xt xf lo hi rest (noteStep x (kd, wh, tk)).1)) Never) (⟨#[u0, u1, .int .u64 rest, u3, u4, u5, u6, u7, u8, u9, .pointer (some ⟨pb, 0, none⟩), u11, .pointer (some ⟨xb, 0, none⟩), .int .i64 many, u14, .pointer (some ⟨bb, 0, none⟩), .int .u64 (actNow x.now tk), .int .u64 (max (actNow x.now tk) x.now), .int .i64 (actPort lo hi wh), u19, u20, u21, u22, u23, u24, u25, u26, u27, u28, u29, u30, u31, u32, u33, u34, u35, u36, u37, u38, u39, u40, u41, u42, u43, u44, u45, u46, u47, u48, u49, u50, u51, u52, u53, u54, u55, u56, u57, u58, u59, u60, u61, u62, u63, u64, u65, u66, u67, u68, .slice A n c, .int .i64 n, .int .i64 i, u72, u73, u74, u75, u76, u77, u78, u79, u80, u81, u82, u83, u84, u85, u86, u87, u88, u89, u90, u91, u92, u93, u94, u95, u96, u97, u98, u99, u100, u101, u102, u103, u104, u105, u106, u107, u108, u109, u110, u111, u112, u113, u114, u115, u116, u117, u118, u119, u120, u121, u122, u123, u124, u125, u126, u127, u128, u129, u130, u131, u132, u133, u134, u135, u136, u137, u138, u139, u140, u141, u142, u143, u144, u145, u146, u147, u148, u149, u150, u151, u152, u153, u154, u155, u156, u157, u158, u159, u160, u161, u162, u163, u164, u165, u166, u167, u168, u169, u170, u171, u172, u173, u174, u175, u176, u177, u178, u179, u180, u181, u182, u183, u184, u185, u186, u187, u188, u189, u190, u191, u192, u193, u194, u195, u196, u197, u198, u199, u200, u201, u202, u203, u204, u205, u206, u207, u208, u209, u210, u211, u212, u213, u214, u215, u216, u217, u218, u219, u220, u221, u222, u223, u224, u225, u226, u227, u228, u229, u230, u231, u232, u233, u234, u235, u236, u237, u238, u239, u240, u241, u242, u243, u244, u245, u246, u247, u248, u249, u250, u251, u252, u253, u254, u255, u256, u257, u258, u259, u260, u261, u262, u263, u264, u265, u266, u267, u268, u269, u270, u271, u272, u273, u274, u275, u276, u277, u278, u279, u280, u281, u282, u283, u284, u285, u286, u287, u288, u289, u290, u291, u292, u293, u294, u295, u296, u297, u298, u299, u300, u301, u302, u303, u304, u305, u306, u307, u308, u309, u310, u311, u312, u313, u314, u315, u316, u317, u318, u319, u320, u321, u322, u323, u324, u325, u326, u327, u328, u329, u330, u331, u332], []⟩ : Act) wr := by
  obtain ⟨n0, n1, n2, n3, n4, n5, n6⟩ := h.1.note.cells
  have k0 := h.2.cell 0
  have hpb := port_bounds hl
  obtain ⟨l0, l1, l2, r0, r1, kd0, kd1, w0, w1, t0, t1⟩ := hl
  simp only [step_give_ok hk hn hf, Int.add_zero]
  have hf : aget (actPort x.low x.high wh) false x.taken = true := by simpa using hf
  have lk := h.1.note.2.1.look (int_key (P := Try.prog) Try.underlying3) Try.underlying40 zero4 (actPort x.low x.high wh)
  rw [hf] at lk
  have hxl := hg.xl
  have hxh := hg.xh
  have hxr := hg.xr
  simp only [hxl, hxh, hxr] at lk hf ⊢
  rw [← hg.tk] at hf
  have h3 : 0 ≤ max (actNow x.now tk) x.now ∧ max (actNow x.now tk) x.now ≤ 1099511627776 := by have := hg.now0; have := hg.now1; omega
  have e1 : IntKind.u64.wrap (max (actNow x.now tk) x.now + rest) = max (actNow x.now tk) x.now + rest := IntWalk.u64_in _ (by omega)
  have E1 : Hid (aget (actPort lo hi wh) false p.taken = true ∧ 0 ≤ max p.now (actNow x.now tk) ∧ max p.now (actNow x.now tk) ≤ 1099511627776 ∧ 0 ≤ p.rest ∧ p.rest ≤ 1099511627776) := Lib.hid ⟨hf, by rw [hg.now]; omega, by rw [hg.now]; omega, by rw [hg.pr]; omega, by rw [hg.pr]; omega⟩
  have e2 := hg.give (actNow x.now tk) (actPort lo hi wh) (by omega)
  simp only [hxl, hxh, hxr] at e2
  have E2 := Lib.hid e2
  have H := Lib.hid h.1
  have hk' : kd.tmod 6 = kd % 6 := Int.tmod_eq_emod_of_nonneg kd0
  obtain ⟨w1, w2, w3, w4, s1, s2, v1, v2, m1, m2, m3, m4, hs4, c0, c1, c2, c3, c4⟩ := h.1.give_ (max (actNow x.now tk) x.now) (actPort lo hi wh) (max (actNow x.now tk) x.now + rest)
  simp only [hxl, hxh, hxr] at hs4
  have H4 := Lib.hid hs4
  have Hn := Lib.hid (Int.not_lt.1 hn)
  clear h hg hf n0 n1 n2 hs4 e2 hxl hxh hxr
  conv => arg 2; whnf
  rcases hk with hk | hk
  all_goals
    rw [hk] at hk'
    generalize actPort lo hi wh = port at *
    generalize actNow x.now tk = now at *
    generalize max now x.now = at_ at *
    go_wp2_with (fail)
    go_region_held3 (fun w' => w'.cell? ⟨xb, 3, none⟩ = some (.map (some xt)) ∧ w'.cell? ⟨xb, 4, none⟩ = some (.map (some xf)) ) (first | exact c0 | exact c1 | exact c2 | exact c3 | exact c4 | go_keep) (fail)
    go_wp2_with (go_at_call 8; go_loud (have hp := H4.out.pool; have hE := E1.out; (with_reducible refine (give_ok _ _ _ p port now _ hp (Int.not_lt.2 Hn.out) hE.1 hE.2.1 hE.2.2.1 hE.2.2.2.1 hE.2.2.2.2).mono ?_); clear hp hE; rintro e w5 ⟨rfl, hp5, ho5⟩; have H5 := Lib.hid (H4.out.pool' ho5 hp5); clear hp5 ho5))
    exact ⟨⟨rfl, rfl, rfl, rfl, rfl, rfl, rfl, rfl, rfl⟩, ⟨_, H5.out, E2.out⟩⟩

set_option maxRecDepth 100000 in
theorem kind_free_arg {u0 u1 u3 u4 u5 u6 u7 u8 u9 u11 u14 u19 u20 u21 u22 u23 u24 u25 u26 u27 u28 u29 u30 u31 u32 u33 u34 u35 u36 u37 u38 u39 u40 u41 u42 u43 u44 u45 u46 u47 u48 u49 u50 u51 u52 u53 u54 u55 u56 u57 u58 u59 u60 u61 u62 u63 u64 u65 u66 u67 u68 u72 u73 u74 u75 u76 u77 u78 u79 u80 u81 u82 u83 u84 u85 u86 u87 u88 u89 u90 u91 u92 u93 u94 u95 u96 u97 u98 u99 u100 u101 u102 u103 u104 u105 u106 u107 u108 u109 u110 u111 u112 u113 u114 u115 u116 u117 u118 u119 u120 u121 u122 u123 u124 u125 u126 u127 u128 u129 u130 u131 u132 u133 u134 u135 u136 u137 u138 u139 u140 u141 u142 u143 u144 u145 u146 u147 u148 u149 u150 u151 u152 u153 u154 u155 u156 u157 u158 u159 u160 u161 u162 u163 u164 u165 u166 u167 u168 u169 u170 u171 u172 u173 u174 u175 u176 u177 u178 u179 u180 u181 u182 u183 u184 u185 u186 u187 u188 u189 u190 u191 u192 u193 u194 u195 u196 u197 u198 u199 u200 u201 u202 u203 u204 u205 u206 u207 u208 u209 u210 u211 u212 u213 u214 u215 u216 u217 u218 u219 u220 u221 u222 u223 u224 u225 u226 u227 u228 u229 u230 u231 u232 u233 u234 u235 u236 u237 u238 u239 u240 u241 u242 u243 u244 u245 u246 u247 u248 u249 u250 u251 u252 u253 u254 u255 u256 u257 u258 u259 u260 u261 u262 u263 u264 u265 u266 u267 u268 u269 u270 u271 u272 u273 u274 u275 u276 u277 u278 u279 u280 u281 u282 u283 u284 u285 u286 u287 u288 u289 u290 u291 u292 u293 u294 u295 u296 u297 u298 u299 u300 u301 u302 u303 u304 u305 u306 u307 u308 u309 u310 u311 u312 u313 u314 u315 u316 u317 u318 u319 u320 u321 u322 u323 u324 u325 u326 u327 u328 u329 u330 u331 u332 : Value} (h : Amid w wr pb pt pu xb xt xf bb p x kd wh tk) (hg : Goes lo hi rest p x) (hl : Lim lo hi rest kd wh tk) (hk : kd % 6 = 4) (hn : 1099511627776 < actNow x.now tk) :
    Code.wp Try.prog (codeAt (fbody Try.f5) [1,1,1,1,1,1,0,1,0,0,1,1,0,0,1,1,1,1,1,0]) (Exit.then (Out (fun a' => (a'.defers = [] ∧ a'.tmps.size = 333 ∧ a'.tmps[2]? = some (.int .u64 rest) ∧ a'.tmps[10]? = some (.pointer (some ⟨pb, 0, none⟩)) ∧ a'.tmps[12]? = some (.pointer (some ⟨xb, 0, none⟩)) ∧ a'.tmps[13]? = some (.int .i64 (many + (noteStep x (kd, wh, tk)).2)) ∧ a'.tmps[69]? = some (.slice A n c) ∧ a'.tmps[70]? = some (.int .i64 n) ∧ a'.tmps[71]? = some (.int .i64 i))) (fun w' => Did w w' pb pt pu xb xt xf lo hi rest (noteStep x (kd, wh, tk)).1)) Never) (⟨#[u0, u1, .int .u64 rest, u3, u4, u5, u6, u7, u8, u9, .pointer (some ⟨pb, 0, none⟩), u11, .pointer (some ⟨xb, 0, none⟩), .int .i64 many, u14, .pointer (some ⟨bb, 0, none⟩), .int .u64 (actNow x.now tk), .int .u64 (max (actNow x.now tk) x.now), .int .i64 (actPort lo hi wh), u19, u20, u21, u22, u23, u24, u25, u26, u27, u28, u29, u30, u31, u32, u33, u34, u35, u36, u37, u38, u39, u40, u41, u42, u43, u44, u45, u46, u47, u48, u49, u50, u51, u52, u53, u54, u55, u56, u57, u58, u59, u60, u61, u62, u63, u64, u65, u66, u67, u68, .slice A n c, .int .i64 n, .int .i64 i, u72, u73, u74, u75, u76, u77, u78, u79, u80, u81, u82, u83, u84, u85, u86, u87, u88, u89, u90, u91, u92, u93, u94, u95, u96, u97, u98, u99, u100, u101, u102, u103, u104, u105, u106, u107, u108, u109, u110, u111, u112, u113, u114, u115, u116, u117, u118, u119, u120, u121, u122, u123, u124, u125, u126, u127, u128, u129, u130, u131, u132, u133, u134, u135, u136, u137, u138, u139, u140, u141, u142, u143, u144, u145, u146, u147, u148, u149, u150, u151, u152, u153, u154, u155, u156, u157, u158, u159, u160, u161, u162, u163, u164, u165, u166, u167, u168, u169, u170, u171, u172, u173, u174, u175, u176, u177, u178, u179, u180, u181, u182, u183, u184, u185, u186, u187, u188, u189, u190, u191, u192, u193, u194, u195, u196, u197, u198, u199, u200, u201, u202, u203, u204, u205, u206, u207, u208, u209, u210, u211, u212, u213, u214, u215, u216, u217, u218, u219, u220, u221, u222, u223, u224, u225, u226, u227, u228, u229, u230, u231, u232, u233, u234, u235, u236, u237, u238, u239, u240, u241, u242, u243, u244, u245, u246, u247, u248, u249, u250, u251, u252, u253, u254, u255, u256, u257, u258, u259, u260, u261, u262, u263, u264, u265, u266, u267, u268, u269, u270, u271, u272, u273, u274, u275, u276, u277, u278, u279, u280, u281, u282, u283, u284, u285, u286, u287, u288, u289, u290, u291, u292, u293, u294, u295, u296, u297, u298, u299, u300, u301, u302, u303, u304, u305, u306, u307, u308, u309, u310, u311, u312, u313, u314, u315, u316, u317, u318, u319, u320, u321, u322, u323, u324, u325, u326, u327, u328, u329, u330, u331, u332], []⟩ : Act) wr := by
  have k0 := h.2.cell 0
  obtain ⟨l0, l1, l2, r0, r1, kd0, kd1, w0, w1, t0, t1⟩ := hl
  simp only [step_free_arg hk hn, Int.add_zero]
  have E1 : Hid (0 ≤ x.low ∧ x.low ≤ x.high ∧ x.high < 65536) := Lib.hid (by rw [hg.xl, hg.xh]; omega)
  have H := Lib.hid h
  have Hg := Lib.hid hg
  have hk' : kd.tmod 6 = kd % 6 := Int.tmod_eq_emod_of_nonneg kd0
  clear h hg
  conv => arg 2; whnf
  rw [hk] at hk'
  generalize actPort lo hi wh = port at *
  generalize actNow x.now tk = now at *
  generalize max now x.now = at_ at *
  go_wp2_with (first
    | (go_at_call 10; have hp := H.out.1.pool; (with_reducible refine (frees_arg _ _ _ p now _ hp hn).mono ?_); clear hp; rintro e w' ⟨rfl, rfl⟩)
    | (go_at_call 9; have hp := H.out.1.note; have hE := E1.out; (with_reducible refine (least_any _ _ _ x at_ _ hp hE.1 hE.2.1 hE.2.2).mono ?_); clear hp hE; rintro e w' ⟨rfl, rfl⟩))
  exact ⟨⟨rfl, rfl, rfl, rfl, rfl, rfl, rfl, rfl, rfl⟩, ⟨_, H.out.1, Hg.out⟩⟩

theorem Goes.free_same (hg : Goes lo hi rest p x) (l1 : lo ≤ hi) (now : Int) : (p.at_ now).freeTo (p.high - p.low + 1).toNat = (x.leastTo (max now x.now) (x.high - x.low + 1).toNat).2 := by
  have h := count_same x (p.at_ now) (max now x.now) (by rw [hg.xl]; exact hg.pl) (hg.free now) (x.high - x.low + 1).toNat (by rw [hg.xl, hg.xh]; omega) (x.high - x.low + 1).toNat (Nat.le_refl _)
  rw [Nat.sub_self] at h
  rw [hg.ph, hg.pl, ← hg.xl, ← hg.xh, h]
  simp [PoolS.freeTo]

set_option maxRecDepth 100000 in
theorem kind_free_ok {u0 u1 u3 u4 u5 u6 u7 u8 u9 u11 u14 u19 u20 u21 u22 u23 u24 u25 u26 u27 u28 u29 u30 u31 u32 u33 u34 u35 u36 u37 u38 u39 u40 u41 u42 u43 u44 u45 u46 u47 u48 u49 u50 u51 u52 u53 u54 u55 u56 u57 u58 u59 u60 u61 u62 u63 u64 u65 u66 u67 u68 u72 u73 u74 u75 u76 u77 u78 u79 u80 u81 u82 u83 u84 u85 u86 u87 u88 u89 u90 u91 u92 u93 u94 u95 u96 u97 u98 u99 u100 u101 u102 u103 u104 u105 u106 u107 u108 u109 u110 u111 u112 u113 u114 u115 u116 u117 u118 u119 u120 u121 u122 u123 u124 u125 u126 u127 u128 u129 u130 u131 u132 u133 u134 u135 u136 u137 u138 u139 u140 u141 u142 u143 u144 u145 u146 u147 u148 u149 u150 u151 u152 u153 u154 u155 u156 u157 u158 u159 u160 u161 u162 u163 u164 u165 u166 u167 u168 u169 u170 u171 u172 u173 u174 u175 u176 u177 u178 u179 u180 u181 u182 u183 u184 u185 u186 u187 u188 u189 u190 u191 u192 u193 u194 u195 u196 u197 u198 u199 u200 u201 u202 u203 u204 u205 u206 u207 u208 u209 u210 u211 u212 u213 u214 u215 u216 u217 u218 u219 u220 u221 u222 u223 u224 u225 u226 u227 u228 u229 u230 u231 u232 u233 u234 u235 u236 u237 u238 u239 u240 u241 u242 u243 u244 u245 u246 u247 u248 u249 u250 u251 u252 u253 u254 u255 u256 u257 u258 u259 u260 u261 u262 u263 u264 u265 u266 u267 u268 u269 u270 u271 u272 u273 u274 u275 u276 u277 u278 u279 u280 u281 u282 u283 u284 u285 u286 u287 u288 u289 u290 u291 u292 u293 u294 u295 u296 u297 u298 u299 u300 u301 u302 u303 u304 u305 u306 u307 u308 u309 u310 u311 u312 u313 u314 u315 u316 u317 u318 u319 u320 u321 u322 u323 u324 u325 u326 u327 u328 u329 u330 u331 u332 : Value} (h : Amid w wr pb pt pu xb xt xf bb p x kd wh tk) (hg : Goes lo hi rest p x) (hl : Lim lo hi rest kd wh tk) (hk : kd % 6 = 4) (hn : ¬ 1099511627776 < actNow x.now tk) :
    Code.wp Try.prog (codeAt (fbody Try.f5) [1,1,1,1,1,1,0,1,0,0,1,1,0,0,1,1,1,1,1,0]) (Exit.then (Out (fun a' => (a'.defers = [] ∧ a'.tmps.size = 333 ∧ a'.tmps[2]? = some (.int .u64 rest) ∧ a'.tmps[10]? = some (.pointer (some ⟨pb, 0, none⟩)) ∧ a'.tmps[12]? = some (.pointer (some ⟨xb, 0, none⟩)) ∧ a'.tmps[13]? = some (.int .i64 (many + (noteStep x (kd, wh, tk)).2)) ∧ a'.tmps[69]? = some (.slice A n c) ∧ a'.tmps[70]? = some (.int .i64 n) ∧ a'.tmps[71]? = some (.int .i64 i))) (fun w' => Did w w' pb pt pu xb xt xf lo hi rest (noteStep x (kd, wh, tk)).1)) Never) (⟨#[u0, u1, .int .u64 rest, u3, u4, u5, u6, u7, u8, u9, .pointer (some ⟨pb, 0, none⟩), u11, .pointer (some ⟨xb, 0, none⟩), .int .i64 many, u14, .pointer (some ⟨bb, 0, none⟩), .int .u64 (actNow x.now tk), .int .u64 (max (actNow x.now tk) x.now), .int .i64 (actPort lo hi wh), u19, u20, u21, u22, u23, u24, u25, u26, u27, u28, u29, u30, u31, u32, u33, u34, u35, u36, u37, u38, u39, u40, u41, u42, u43, u44, u45, u46, u47, u48, u49, u50, u51, u52, u53, u54, u55, u56, u57, u58, u59, u60, u61, u62, u63, u64, u65, u66, u67, u68, .slice A n c, .int .i64 n, .int .i64 i, u72, u73, u74, u75, u76, u77, u78, u79, u80, u81, u82, u83, u84, u85, u86, u87, u88, u89, u90, u91, u92, u93, u94, u95, u96, u97, u98, u99, u100, u101, u102, u103, u104, u105, u106, u107, u108, u109, u110, u111, u112, u113, u114, u115, u116, u117, u118, u119, u120, u121, u122, u123, u124, u125, u126, u127, u128, u129, u130, u131, u132, u133, u134, u135, u136, u137, u138, u139, u140, u141, u142, u143, u144, u145, u146, u147, u148, u149, u150, u151, u152, u153, u154, u155, u156, u157, u158, u159, u160, u161, u162, u163, u164, u165, u166, u167, u168, u169, u170, u171, u172, u173, u174, u175, u176, u177, u178, u179, u180, u181, u182, u183, u184, u185, u186, u187, u188, u189, u190, u191, u192, u193, u194, u195, u196, u197, u198, u199, u200, u201, u202, u203, u204, u205, u206, u207, u208, u209, u210, u211, u212, u213, u214, u215, u216, u217, u218, u219, u220, u221, u222, u223, u224, u225, u226, u227, u228, u229, u230, u231, u232, u233, u234, u235, u236, u237, u238, u239, u240, u241, u242, u243, u244, u245, u246, u247, u248, u249, u250, u251, u252, u253, u254, u255, u256, u257, u258, u259, u260, u261, u262, u263, u264, u265, u266, u267, u268, u269, u270, u271, u272, u273, u274, u275, u276, u277, u278, u279, u280, u281, u282, u283, u284, u285, u286, u287, u288, u289, u290, u291, u292, u293, u294, u295, u296, u297, u298, u299, u300, u301, u302, u303, u304, u305, u306, u307, u308, u309, u310, u311, u312, u313, u314, u315, u316, u317, u318, u319, u320, u321, u322, u323, u324, u325, u326, u327, u328, u329, u330, u331, u332], []⟩ : Act) wr := by
  obtain ⟨n0, n1, n2, n3, n4, n5, n6⟩ := h.1.note.cells
  have k0 := h.2.cell 0
  obtain ⟨l0, l1, l2, r0, r1, kd0, kd1, w0, w1, t0, t1⟩ := hl
  simp only [step_free_ok hk hn, Int.add_zero]
  have E1 : Hid (0 ≤ x.low ∧ x.low ≤ x.high ∧ x.high < 65536) := Lib.hid (by rw [hg.xl, hg.xh]; omega)
  have E2 : Hid (0 ≤ p.low ∧ p.low ≤ p.high ∧ p.high < 65536) := Lib.hid (by rw [hg.pl, hg.ph]; omega)
  have E3 := hg.free_same l1 (actNow x.now tk)
  have E4 := Lib.hid (hg.tick (actNow x.now tk) (by omega))
  have H := Lib.hid h.1
  have hk' : kd.tmod 6 = kd % 6 := Int.tmod_eq_emod_of_nonneg kd0
  clear h hg n0 n1 n2 n3 n4
  conv => arg 2; whnf
  rw [hk] at hk'
  generalize actPort lo hi wh = port at *
  generalize actNow x.now tk = now at *
  generalize max now x.now = at_ at *
  generalize hff : (x.leastTo at_ (x.high - x.low + 1).toNat).2 = fr at *
  have hff' := Lib.hid hff
  have Hn := Lib.hid (Int.not_lt.1 hn)
  have E3' := Lib.hid E3
  clear hff E3
  go_wp2_with (first
    | (go_at_call 10
       go_loud (
        have hp := (H.out.now_ at_).pool
        have hE := E2.out
        have hq := frees_any _ _ _ p now _ hp (Int.not_lt.2 Hn.out) hE.1 hE.2.1 hE.2.2
        rw [E3'.out] at hq
        (with_reducible refine hq.mono ?_)
        clear hp hE hq
        rintro e w1 ⟨rfl, hp1, ho1⟩
        have H1 := Lib.hid ((H.out.now_ at_).pool' ho1 hp1)
        clear hp1 ho1))
    | (go_at_call 9
       have hp := H.out.note
       have hE := E1.out
       have hq := least_any _ _ _ x at_ _ hp hE.1 hE.2.1 hE.2.2
       rw [hff'.out] at hq
       (with_reducible refine hq.mono ?_)
       clear hp hE hq
       rintro e w' ⟨rfl, rfl⟩))
  exact ⟨⟨rfl, rfl, rfl, rfl, rfl, rfl, rfl, rfl, rfl⟩, ⟨_, H1.out, E4.out⟩⟩
end
end Go.Proofs.Ytnpmelonkcgpgab

