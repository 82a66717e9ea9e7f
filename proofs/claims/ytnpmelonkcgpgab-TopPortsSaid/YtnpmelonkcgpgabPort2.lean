/- ported11, the acts that take a port. -/
import Derived.Test.YtnpmelonkcgpgabPort1
import Derived.Test.YtnpmelonkcgpgabEnt
namespace Go.Proofs.Ytnpmelonkcgpgab
open Go.RowKit
set_option linter.unusedVariables false
set_option linter.unusedSimpArgs false

section
variable {w wr : World} {pb pt pu xb xt xf bb c n i : Nat} {A : Option Addr} {p : PoolS} {x : NoteS} {lo hi rest many kd wh tk : Int}

theorem NoteAt.now_ {w : World} {b bt bu : Nat} {x : NoteS} (h : NoteAt w b bt bu x) (v : Int) : NoteAt (w.setCell ⟨b, 5, none⟩ (.int .u64 v)) b bt bu { x with now := v } :=
  ⟨h.1.set_ 5 _, h.2.1.setCell (h.2.1.ne_blk h.1) _, h.2.2.1.setCell (h.2.2.1.ne_blk h.1) _, h.2.2.2⟩

theorem St.now_ (h : St w wr pb pt pu xb xt xf p x) (v : Int) : St w (wr.setCell ⟨xb, 5, none⟩ (.int .u64 v)) pb pt pu xb xt xf p { x with now := v } :=
  h.note' ((Only.refl _ _).setCell (.inl (by simp)) _) (h.note.now_ v)

/-- What an act has left. -/
def Did (w wr : World) (pb pt pu xb xt xf : Nat) (lo hi rest : Int) (x : NoteS) : Prop := ∃ p, St w wr pb pt pu xb xt xf p x ∧ Goes lo hi rest p x

/-- Which limits hold. -/
structure Lim (lo hi rest kd wh tk : Int) : Prop where
  l0 : 0 < lo
  l1 : lo ≤ hi
  l2 : hi ≤ 60020
  r0 : 0 ≤ rest
  r1 : rest ≤ 1099511627776
  k0 : 0 ≤ kd
  k1 : kd < 256
  w0 : 0 ≤ wh
  w1 : wh < 256
  t0 : -32768 ≤ tk
  t1 : tk ≤ 32767

theorem step_take_arg (hk : kd % 6 = 0 ∨ kd % 6 = 1) (hn : 1099511627776 < actNow x.now tk) : noteStep x (kd, wh, tk) = (x, 0) := by
  simp only [noteStep, if_pos hk, if_pos hn]
theorem step_take_full (hk : kd % 6 = 0 ∨ kd % 6 = 1) (hn : ¬ 1099511627776 < actNow x.now tk) (h : (x.leastTo (max (actNow x.now tk) x.now) (x.high - x.low + 1).toNat).2 = 0) :
    noteStep x (kd, wh, tk) = ({ x with now := max (actNow x.now tk) x.now }, 0) := by
  simp only [noteStep, if_pos hk, if_neg hn, if_pos h]
theorem step_take_some (hk : kd % 6 = 0 ∨ kd % 6 = 1) (hn : ¬ 1099511627776 < actNow x.now tk) (h : ¬ (x.leastTo (max (actNow x.now tk) x.now) (x.high - x.low + 1).toNat).2 = 0) :
    noteStep x (kd, wh, tk) = ({ x with now := max (actNow x.now tk) x.now, taken := aput (x.leastTo (max (actNow x.now tk) x.now) (x.high - x.low + 1).toNat).1 true x.taken }, 1) := by
  simp only [noteStep, if_pos hk, if_neg hn, if_neg h]


set_option maxRecDepth 100000 in
theorem kind_take_arg {u0 u1 u3 u4 u5 u6 u7 u8 u9 u11 u14 u19 u20 u21 u22 u23 u24 u25 u26 u27 u28 u29 u30 u31 u32 u33 u34 u35 u36 u37 u38 u39 u40 u41 u42 u43 u44 u45 u46 u47 u48 u49 u50 u51 u52 u53 u54 u55 u56 u57 u58 u59 u60 u61 u62 u63 u64 u65 u66 u67 u68 u72 u73 u74 u75 u76 u77 u78 u79 u80 u81 u82 u83 u84 u85 u86 u87 u88 u89 u90 u91 u92 u93 u94 u95 u96 u97 u98 u99 u100 u101 u102 u103 u104 u105 u106 u107 u108 u109 u110 u111 u112 u113 u114 u115 u116 u117 u118 u119 u120 u121 u122 u123 u124 u125 u126 u127 u128 u129 u130 u131 u132 u133 u134 u135 u136 u137 u138 u139 u140 u141 u142 u143 u144 u145 u146 u147 u148 u149 u150 u151 u152 u153 u154 u155 u156 u157 u158 u159 u160 u161 u162 u163 u164 u165 u166 u167 u168 u169 u170 u171 u172 u173 u174 u175 u176 u177 u178 u179 u180 u181 u182 u183 u184 u185 u186 u187 u188 u189 u190 u191 u192 u193 u194 u195 u196 u197 u198 u199 u200 u201 u202 u203 u204 u205 u206 u207 u208 u209 u210 u211 u212 u213 u214 u215 u216 u217 u218 u219 u220 u221 u222 u223 u224 u225 u226 u227 u228 u229 u230 u231 u232 u233 u234 u235 u236 u237 u238 u239 u240 u241 u242 u243 u244 u245 u246 u247 u248 u249 u250 u251 u252 u253 u254 u255 u256 u257 u258 u259 u260 u261 u262 u263 u264 u265 u266 u267 u268 u269 u270 u271 u272 u273 u274 u275 u276 u277 u278 u279 u280 u281 u282 u283 u284 u285 u286 u287 u288 u289 u290 u291 u292 u293 u294 u295 u296 u297 u298 u299 u300 u301 u302 u303 u304 u305 u306 u307 u308 u309 u310 u311 u312 u313 u314 u315 u316 u317 u318 u319 u320 u321 u322 u323 u324 u325 u326 u327 u328 u329 u330 u331 u332 : Value} (h : Amid w wr pb pt pu xb xt xf bb p x kd wh tk) (hg : Goes lo hi rest p x) (hl : Lim lo hi rest kd wh tk) (hk : kd % 6 = 0 ∨ kd % 6 = 1) (hn : 1099511627776 < actNow x.now tk) :
    Code.wp Try.prog (codeAt (fbody Try.f5) [1,1,1,1,1,1,0,1,0,0,1,1,0,0,1,1,1,1,1,0]) (Exit.then (Out (fun a' => (a'.defers = [] ∧ a'.tmps.size = 333 ∧ a'.tmps[2]? = some (.int .u64 rest) ∧ a'.tmps[10]? = some (.pointer (some ⟨pb, 0, none⟩)) ∧ a'.tmps[12]? = some (.pointer (some ⟨xb, 0, none⟩)) ∧ a'.tmps[13]? = some (.int .i64 (many + (noteStep x (kd, wh, tk)).2)) ∧ a'.tmps[69]? = some (.slice A n c) ∧ a'.tmps[70]? = some (.int .i64 n) ∧ a'.tmps[71]? = some (.int .i64 i))) (fun w' => Did w w' pb pt pu xb xt xf lo hi rest (noteStep x (kd, wh, tk)).1)) Never) (⟨#[u0, u1, .int .u64 rest, u3, u4, u5, u6, u7, u8, u9, .pointer (some ⟨pb, 0, none⟩), u11, .pointer (some ⟨xb, 0, none⟩), .int .i64 many, u14, .pointer (some ⟨bb, 0, none⟩), .int .u64 (actNow x.now tk), .int .u64 (max (actNow x.now tk) x.now), .int .i64 (actPort lo hi wh), u19, u20, u21, u22, u23, u24, u25, u26, u27, u28, u29, u30, u31, u32, u33, u34, u35, u36, u37, u38, u39, u40, u41, u42, u43, u44, u45, u46, u47, u48, u49, u50, u51, u52, u53, u54, u55, u56, u57, u58, u59, u60, u61, u62, u63, u64, u65, u66, u67, u68, .slice A n c, .int .i64 n, .int .i64 i, u72, u73, u74, u75, u76, u77, u78, u79, u80, u81, u82, u83, u84, u85, u86, u87, u88, u89, u90, u91, u92, u93, u94, u95, u96, u97, u98, u99, u100, u101, u102, u103, u104, u105, u106, u107, u108, u109, u110, u111, u112, u113, u114, u115, u116, u117, u118, u119, u120, u121, u122, u123, u124, u125, u126, u127, u128, u129, u130, u131, u132, u133, u134, u135, u136, u137, u138, u139, u140, u141, u142, u143, u144, u145, u146, u147, u148, u149, u150, u151, u152, u153, u154, u155, u156, u157, u158, u159, u160, u161, u162, u163, u164, u165, u166, u167, u168, u169, u170, u171, u172, u173, u174, u175, u176, u177, u178, u179, u180, u181, u182, u183, u184, u185, u186, u187, u188, u189, u190, u191, u192, u193, u194, u195, u196, u197, u198, u199, u200, u201, u202, u203, u204, u205, u206, u207, u208, u209, u210, u211, u212, u213, u214, u215, u216, u217, u218, u219, u220, u221, u222, u223, u224, u225, u226, u227, u228, u229, u230, u231, u232, u233, u234, u235, u236, u237, u238, u239, u240, u241, u242, u243, u244, u245, u246, u247, u248, u249, u250, u251, u252, u253, u254, u255, u256, u257, u258, u259, u260, u261, u262, u263, u264, u265, u266, u267, u268, u269, u270, u271, u272, u273, u274, u275, u276, u277, u278, u279, u280, u281, u282, u283, u284, u285, u286, u287, u288, u289, u290, u291, u292, u293, u294, u295, u296, u297, u298, u299, u300, u301, u302, u303, u304, u305, u306, u307, u308, u309, u310, u311, u312, u313, u314, u315, u316, u317, u318, u319, u320, u321, u322, u323, u324, u325, u326, u327, u328, u329, u330, u331, u332], []⟩ : Act) wr := by
  obtain ⟨n0, n1, n2, n3, n4, n5, n6⟩ := h.1.note.cells
  have k0 := h.2.cell 0
  obtain ⟨l0, l1, l2, r0, r1, kd0, kd1, w0, w1, t0, t1⟩ := hl
  simp only [step_take_arg hk hn, Int.add_zero]
  have E1 : Hid (0 ≤ x.low ∧ x.low ≤ x.high ∧ x.high < 65536) := Lib.hid (by rw [hg.xl, hg.xh]; omega)
  have H := Lib.hid h
  have Hg := Lib.hid hg
  have hk' : kd.tmod 6 = kd % 6 := Int.tmod_eq_emod_of_nonneg kd0
  clear h hg n0 n1 n2 n3 n4 n5 n6
  conv => arg 2; whnf
  rcases hk with hk | hk
  all_goals
    rw [hk] at hk'
    generalize actPort lo hi wh = port at *
    generalize actNow x.now tk = now at *
    generalize max now x.now = at_ at *
    go_wp2_with (first
      | (go_at_call 7; have hp := H.out.1.pool; (with_reducible refine (take_arg _ _ _ p now _ hp hn).mono ?_); clear hp; rintro e w' ⟨rfl, rfl⟩)
      | (go_at_call 9; have hp := H.out.1.note; have hE := E1.out; (with_reducible refine (least_any _ _ _ x at_ _ hp hE.1 hE.2.1 hE.2.2).mono ?_); clear hp hE; rintro e w' ⟨rfl, rfl⟩))
    exact ⟨⟨rfl, rfl, rfl, rfl, rfl, rfl, rfl, rfl, rfl⟩, ⟨_, H.out.1, Hg.out⟩⟩

/-- No port is free: the pool says so too. -/
theorem Goes.none_free (hg : Goes lo hi rest p x) (l1 : lo ≤ hi) {now : Int} (h : (x.leastTo (max now x.now) (x.high - x.low + 1).toNat).2 = 0) : ∀ j, p.low ≤ j → j ≤ p.high → (p.at_ now).free j = false := by
  intro j h0 h1
  rw [hg.free]
  rcases least_spec x (max now x.now) (x.high - x.low + 1).toNat with ⟨_, hf⟩ | ⟨h2, _⟩
  · have := hf (x.high - j).toNat (by rw [hg.pl] at h0; rw [hg.ph] at h1; rw [hg.xl, hg.xh]; omega)
    rwa [show x.high - ((x.high - j).toNat : Int) = j by rw [hg.ph] at h1; rw [hg.xh]; omega] at this
  · omega
/-- One is free: the least one. -/
theorem Goes.some_free (hg : Goes lo hi rest p x) (l1 : lo ≤ hi) {now : Int} (h : ¬ (x.leastTo (max now x.now) (x.high - x.low + 1).toNat).2 = 0) :
    p.low ≤ (x.leastTo (max now x.now) (x.high - x.low + 1).toNat).1 ∧ (x.leastTo (max now x.now) (x.high - x.low + 1).toNat).1 ≤ p.high ∧ (p.at_ now).free (x.leastTo (max now x.now) (x.high - x.low + 1).toNat).1 = true ∧
      ∀ j, p.low ≤ j → j < (x.leastTo (max now x.now) (x.high - x.low + 1).toNat).1 → (p.at_ now).free j = false := by
  rcases least_spec x (max now x.now) (x.high - x.low + 1).toNat with ⟨h2, _⟩ | ⟨h2, j, hj, h3, h4, h5⟩
  · exact absurd h2 h
  · rw [h3, hg.free]
    rw [hg.pl, hg.ph, hg.xh]
    rw [hg.xl, hg.xh] at hj
    refine ⟨by omega, by omega, by rw [← hg.xh]; exact h4, fun m hm0 hm1 => ?_⟩
    rw [hg.free]
    have := h5 (hi - m).toNat (by omega) (by rw [hg.xl, hg.xh]; omega)
    rwa [hg.xh, show hi - ((hi - m).toNat : Int) = m by omega] at this

set_option maxRecDepth 100000 in
theorem kind_take_full {u0 u1 u3 u4 u5 u6 u7 u8 u9 u11 u14 u19 u20 u21 u22 u23 u24 u25 u26 u27 u28 u29 u30 u31 u32 u33 u34 u35 u36 u37 u38 u39 u40 u41 u42 u43 u44 u45 u46 u47 u48 u49 u50 u51 u52 u53 u54 u55 u56 u57 u58 u59 u60 u61 u62 u63 u64 u65 u66 u67 u68 u72 u73 u74 u75 u76 u77 u78 u79 u80 u81 u82 u83 u84 u85 u86 u87 u88 u89 u90 u91 u92 u93 u94 u95 u96 u97 u98 u99 u100 u101 u102 u103 u104 u105 u106 u107 u108 u109 u110 u111 u112 u113 u114 u115 u116 u117 u118 u119 u120 u121 u122 u123 u124 u125 u126 u127 u128 u129 u130 u131 u132 u133 u134 u135 u136 u137 u138 u139 u140 u141 u142 u143 u144 u145 u146 u147 u148 u149 u150 u151 u152 u153 u154 u155 u156 u157 u158 u159 u160 u161 u162 u163 u164 u165 u166 u167 u168 u169 u170 u171 u172 u173 u174 u175 u176 u177 u178 u179 u180 u181 u182 u183 u184 u185 u186 u187 u188 u189 u190 u191 u192 u193 u194 u195 u196 u197 u198 u199 u200 u201 u202 u203 u204 u205 u206 u207 u208 u209 u210 u211 u212 u213 u214 u215 u216 u217 u218 u219 u220 u221 u222 u223 u224 u225 u226 u227 u228 u229 u230 u231 u232 u233 u234 u235 u236 u237 u238 u239 u240 u241 u242 u243 u244 u245 u246 u247 u248 u249 u250 u251 u252 u253 u254 u255 u256 u257 u258 u259 u260 u261 u262 u263 u264 u265 u266 u267 u268 u269 u270 u271 u272 u273 u274 u275 u276 u277 u278 u279 u280 u281 u282 u283 u284 u285 u286 u287 u288 u289 u290 u291 u292 u293 u294 u295 u296 u297 u298 u299 u300 u301 u302 u303 u304 u305 u306 u307 u308 u309 u310 u311 u312 u313 u314 u315 u316 u317 u318 u319 u320 u321 u322 u323 u324 u325 u326 u327 u328 u329 u330 u331 u332 : Value} (h : Amid w wr pb pt pu xb xt xf bb p x kd wh tk) (hg : Goes lo hi rest p x) (hl : Lim lo hi rest kd wh tk) (hk : kd % 6 = 0 ∨ kd % 6 = 1) (hn : ¬ 1099511627776 < actNow x.now tk)
    (hf : (x.leastTo (max (actNow x.now tk) x.now) (x.high - x.low + 1).toNat).2 = 0) :
    Code.wp Try.prog (codeAt (fbody Try.f5) [1,1,1,1,1,1,0,1,0,0,1,1,0,0,1,1,1,1,1,0]) (Exit.then (Out (fun a' => (a'.defers = [] ∧ a'.tmps.size = 333 ∧ a'.tmps[2]? = some (.int .u64 rest) ∧ a'.tmps[10]? = some (.pointer (some ⟨pb, 0, none⟩)) ∧ a'.tmps[12]? = some (.pointer (some ⟨xb, 0, none⟩)) ∧ a'.tmps[13]? = some (.int .i64 (many + (noteStep x (kd, wh, tk)).2)) ∧ a'.tmps[69]? = some (.slice A n c) ∧ a'.tmps[70]? = some (.int .i64 n) ∧ a'.tmps[71]? = some (.int .i64 i))) (fun w' => Did w w' pb pt pu xb xt xf lo hi rest (noteStep x (kd, wh, tk)).1)) Never) (⟨#[u0, u1, .int .u64 rest, u3, u4, u5, u6, u7, u8, u9, .pointer (some ⟨pb, 0, none⟩), u11, .pointer (some ⟨xb, 0, none⟩), .int .i64 many, u14, .pointer (some ⟨bb, 0, none⟩), .int .u64 (actNow x.now tk), .int .u64 (max (actNow x.now tk) x.now), .int .i64 (actPort lo hi wh), u19, u20, u21, u22, u23, u24, u25, u26, u27, u28, u29, u30, u31, u32, u33, u34, u35, u36, u37, u38, u39, u40, u41, u42, u43, u44, u45, u46, u47, u48, u49, u50, u51, u52, u53, u54, u55, u56, u57, u58, u59, u60, u61, u62, u63, u64, u65, u66, u67, u68, .slice A n c, .int .i64 n, .int .i64 i, u72, u73, u74, u75, u76, u77, u78, u79, u80, u81, u82, u83, u84, u85, u86, u87, u88, u89, u90, u91, u92, u93, u94, u95, u96, u97, u98, u99, u100, u101, u102, u103, u104, u105, u106, u107, u108, u109, u110, u111, u112, u113, u114, u115, u116, u117, u118, u119, u120, u121, u122, u123, u124, u125, u126, u127, u128, u129, u130, u131, u132, u133, u134, u135, u136, u137, u138, u139, u140, u141, u142, u143, u144, u145, u146, u147, u148, u149, u150, u151, u152, u153, u154, u155, u156, u157, u158, u159, u160, u161, u162, u163, u164, u165, u166, u167, u168, u169, u170, u171, u172, u173, u174, u175, u176, u177, u178, u179, u180, u181, u182, u183, u184, u185, u186, u187, u188, u189, u190, u191, u192, u193, u194, u195, u196, u197, u198, u199, u200, u201, u202, u203, u204, u205, u206, u207, u208, u209, u210, u211, u212, u213, u214, u215, u216, u217, u218, u219, u220, u221, u222, u223, u224, u225, u226, u227, u228, u229, u230, u231, u232, u233, u234, u235, u236, u237, u238, u239, u240, u241, u242, u243, u244, u245, u246, u247, u248, u249, u250, u251, u252, u253, u254, u255, u256, u257, u258, u259, u260, u261, u262, u263, u264, u265, u266, u267, u268, u269, u270, u271, u272, u273, u274, u275, u276, u277, u278, u279, u280, u281, u282, u283, u284, u285, u286, u287, u288, u289, u290, u291, u292, u293, u294, u295, u296, u297, u298, u299, u300, u301, u302, u303, u304, u305, u306, u307, u308, u309, u310, u311, u312, u313, u314, u315, u316, u317, u318, u319, u320, u321, u322, u323, u324, u325, u326, u327, u328, u329, u330, u331, u332], []⟩ : Act) wr := by
  have k0 := h.2.cell 0
  obtain ⟨l0, l1, l2, r0, r1, kd0, kd1, w0, w1, t0, t1⟩ := hl
  simp only [step_take_full hk hn hf, Int.add_zero]
  have E1 : Hid (0 ≤ x.low ∧ x.low ≤ x.high ∧ x.high < 65536) := Lib.hid (by rw [hg.xl, hg.xh]; omega)
  have E2 : Hid (0 ≤ p.low ∧ p.low ≤ p.high ∧ p.high < 65536) := Lib.hid (by rw [hg.pl, hg.ph]; omega)
  have E3 := Lib.hid (hg.none_free l1 hf)
  have E4 := Lib.hid (hg.tick (actNow x.now tk) (by omega))
  have H := Lib.hid h.1
  have hk' : kd.tmod 6 = kd % 6 := Int.tmod_eq_emod_of_nonneg kd0
  clear h hg
  conv => arg 2; whnf
  rcases hk with hk | hk
  all_goals
    rw [hk] at hk'
    generalize actPort lo hi wh = port at *
    generalize actNow x.now tk = now at *
    generalize max now x.now = at_ at *
    have hf' := Lib.hid hf
    clear hf
    go_wp2_with (first
      | (go_at_call 7
         have hp := H.out.pool
         have hE := E2.out
         (with_reducible refine (take_full _ _ _ p now _ hp hn hE.1 hE.2.1 hE.2.2 E3.out).mono ?_)
         clear hp hE
         rintro e w1 ⟨rfl, hp1, ho1⟩
         have H1 := Lib.hid (H.out.pool' ho1 hp1)
         obtain ⟨n0, n1, n2, n3, n4, n5, n6⟩ := H1.out.note.cells
         clear hp1 ho1 n0 n1 n2 n3 n4)
      | (go_at_call 9; have hp := H1.out.note; have hE := E1.out; have hq := least_any _ _ _ x at_ _ hp hE.1 hE.2.1 hE.2.2; rw [hf'.out] at hq; (with_reducible refine hq.mono ?_); clear hp hE hq; rintro e w' ⟨rfl, rfl⟩))
    exact ⟨⟨rfl, rfl, rfl, rfl, rfl, rfl, rfl, rfl, rfl⟩, ⟨_, H1.out.now_ at_, E4.out⟩⟩

/-- Taking a port of the noter's. -/
theorem St.take_ (h : St w wr pb pt pu xb xt xf p x) (v k : Int) :
    ∃ w1 w2 st v0, (Instr.mapEntry 40 (.map (some xt)) (.int .i64 k)).run Try.prog (wr.setCell ⟨xb, 5, none⟩ (.int .u64 v)) = .ok (.tuple #[v0, .int .i64 ((st : Nat) : Int)]) w1 ∧
      (Instr.entryStore 40 (.map (some xt)) (.int .i64 ((st : Nat) : Int)) (.bool true)).run Try.prog w1 = .ok () w2 ∧ St w w2 pb pt pu xb xt xf p { x with now := v, taken := aput k true x.taken } := by
  have h1 := h.now_ v
  obtain ⟨w1, st, r1, t1, rest⟩ := h1.note.2.1.entry (int_key (P := Try.prog) Try.underlying3) Try.underlying40 zero4 k
  obtain ⟨w2, r2, m2, t2⟩ := rest w1 true rfl
  refine ⟨w1, w2, st, _, r1, r2, ?_⟩
  have ho : Only [xt] _ w2 := (t1.only (by simp)).trans (t2.only (by simp))
  have hb := h1.note.1
  have hu := h1.note.2.2.1
  have hne := h1.note.2.2.2
  refine h1.note' (ho.mono (by simp)) ⟨hb.only ho (by simpa using (h1.note.2.1.ne_blk hb).symm), m2, hu.only ho (by simpa using hne.symm), hne⟩

set_option maxRecDepth 100000 in
theorem kind_take_some {u0 u1 u3 u4 u5 u6 u7 u8 u9 u11 u14 u19 u20 u21 u22 u23 u24 u25 u26 u27 u28 u29 u30 u31 u32 u33 u34 u35 u36 u37 u38 u39 u40 u41 u42 u43 u44 u45 u46 u47 u48 u49 u50 u51 u52 u53 u54 u55 u56 u57 u58 u59 u60 u61 u62 u63 u64 u65 u66 u67 u68 u72 u73 u74 u75 u76 u77 u78 u79 u80 u81 u82 u83 u84 u85 u86 u87 u88 u89 u90 u91 u92 u93 u94 u95 u96 u97 u98 u99 u100 u101 u102 u103 u104 u105 u106 u107 u108 u109 u110 u111 u112 u113 u114 u115 u116 u117 u118 u119 u120 u121 u122 u123 u124 u125 u126 u127 u128 u129 u130 u131 u132 u133 u134 u135 u136 u137 u138 u139 u140 u141 u142 u143 u144 u145 u146 u147 u148 u149 u150 u151 u152 u153 u154 u155 u156 u157 u158 u159 u160 u161 u162 u163 u164 u165 u166 u167 u168 u169 u170 u171 u172 u173 u174 u175 u176 u177 u178 u179 u180 u181 u182 u183 u184 u185 u186 u187 u188 u189 u190 u191 u192 u193 u194 u195 u196 u197 u198 u199 u200 u201 u202 u203 u204 u205 u206 u207 u208 u209 u210 u211 u212 u213 u214 u215 u216 u217 u218 u219 u220 u221 u222 u223 u224 u225 u226 u227 u228 u229 u230 u231 u232 u233 u234 u235 u236 u237 u238 u239 u240 u241 u242 u243 u244 u245 u246 u247 u248 u249 u250 u251 u252 u253 u254 u255 u256 u257 u258 u259 u260 u261 u262 u263 u264 u265 u266 u267 u268 u269 u270 u271 u272 u273 u274 u275 u276 u277 u278 u279 u280 u281 u282 u283 u284 u285 u286 u287 u288 u289 u290 u291 u292 u293 u294 u295 u296 u297 u298 u299 u300 u301 u302 u303 u304 u305 u306 u307 u308 u309 u310 u311 u312 u313 u314 u315 u316 u317 u318 u319 u320 u321 u322 u323 u324 u325 u326 u327 u328 u329 u330 u331 u332 : Value} (h : Amid w wr pb pt pu xb xt xf bb p x kd wh tk) (hg : Goes lo hi rest p x) (hl : Lim lo hi rest kd wh tk) (hk : kd % 6 = 0 ∨ kd % 6 = 1) (hn : ¬ 1099511627776 < actNow x.now tk)
    (hf : ¬ (x.leastTo (max (actNow x.now tk) x.now) (x.high - x.low + 1).toNat).2 = 0) (hm : 0 ≤ many ∧ many ≤ 80) :
    Code.wp Try.prog (codeAt (fbody Try.f5) [1,1,1,1,1,1,0,1,0,0,1,1,0,0,1,1,1,1,1,0]) (Exit.then (Out (fun a' => (a'.defers = [] ∧ a'.tmps.size = 333 ∧ a'.tmps[2]? = some (.int .u64 rest) ∧ a'.tmps[10]? = some (.pointer (some ⟨pb, 0, none⟩)) ∧ a'.tmps[12]? = some (.pointer (some ⟨xb, 0, none⟩)) ∧ a'.tmps[13]? = some (.int .i64 (many + (noteStep x (kd, wh, tk)).2)) ∧ a'.tmps[69]? = some (.slice A n c) ∧ a'.tmps[70]? = some (.int .i64 n) ∧ a'.tmps[71]? = some (.int .i64 i))) (fun w' => Did w w' pb pt pu xb xt xf lo hi rest (noteStep x (kd, wh, tk)).1)) Never) (⟨#[u0, u1, .int .u64 rest, u3, u4, u5, u6, u7, u8, u9, .pointer (some ⟨pb, 0, none⟩), u11, .pointer (some ⟨xb, 0, none⟩), .int .i64 many, u14, .pointer (some ⟨bb, 0, none⟩), .int .u64 (actNow x.now tk), .int .u64 (max (actNow x.now tk) x.now), .int .i64 (actPort lo hi wh), u19, u20, u21, u22, u23, u24, u25, u26, u27, u28, u29, u30, u31, u32, u33, u34, u35, u36, u37, u38, u39, u40, u41, u42, u43, u44, u45, u46, u47, u48, u49, u50, u51, u52, u53, u54, u55, u56, u57, u58, u59, u60, u61, u62, u63, u64, u65, u66, u67, u68, .slice A n c, .int .i64 n, .int .i64 i, u72, u73, u74, u75, u76, u77, u78, u79, u80, u81, u82, u83, u84, u85, u86, u87, u88, u89, u90, u91, u92, u93, u94, u95, u96, u97, u98, u99, u100, u101, u102, u103, u104, u105, u106, u107, u108, u109, u110, u111, u112, u113, u114, u115, u116, u117, u118, u119, u120, u121, u122, u123, u124, u125, u126, u127, u128, u129, u130, u131, u132, u133, u134, u135, u136, u137, u138, u139, u140, u141, u142, u143, u144, u145, u146, u147, u148, u149, u150, u151, u152, u153, u154, u155, u156, u157, u158, u159, u160, u161, u162, u163, u164, u165, u166, u167, u168, u169, u170, u171, u172, u173, u174, u175, u176, u177, u178, u179, u180, u181, u182, u183, u184, u185, u186, u187, u188, u189, u190, u191, u192, u193, u194, u195, u196, u197, u198, u199, u200, u201, u202, u203, u204, u205, u206, u207, u208, u209, u210, u211, u212, u213, u214, u215, u216, u217, u218, u219, u220, u221, u222, u223, u224, u225, u226, u227, u228, u229, u230, u231, u232, u233, u234, u235, u236, u237, u238, u239, u240, u241, u242, u243, u244, u245, u246, u247, u248, u249, u250, u251, u252, u253, u254, u255, u256, u257, u258, u259, u260, u261, u262, u263, u264, u265, u266, u267, u268, u269, u270, u271, u272, u273, u274, u275, u276, u277, u278, u279, u280, u281, u282, u283, u284, u285, u286, u287, u288, u289, u290, u291, u292, u293, u294, u295, u296, u297, u298, u299, u300, u301, u302, u303, u304, u305, u306, u307, u308, u309, u310, u311, u312, u313, u314, u315, u316, u317, u318, u319, u320, u321, u322, u323, u324, u325, u326, u327, u328, u329, u330, u331, u332], []⟩ : Act) wr := by
  have k0 := h.2.cell 0
  obtain ⟨l0, l1, l2, r0, r1, kd0, kd1, w0, w1, t0, t1⟩ := hl
  simp only [step_take_some hk hn hf]
  have E1 : Hid (0 ≤ x.low ∧ x.low ≤ x.high ∧ x.high < 65536) := Lib.hid (by rw [hg.xl, hg.xh]; omega)
  have E2 : Hid (0 ≤ p.low ∧ p.low ≤ p.high ∧ p.high < 65536) := Lib.hid (by rw [hg.pl, hg.ph]; omega)
  have hs := hg.some_free l1 hf
  have E3 := Lib.hid hs
  have hs1 := hs.1
  have hs2 := hs.2.1
  rw [hg.pl] at hs1
  rw [hg.ph] at hs2
  have E4 := Lib.hid (hg.take (actNow x.now tk) _ (by omega) hs1 hs2)
  clear hs
  have H := Lib.hid h.1
  have hk' : kd.tmod 6 = kd % 6 := Int.tmod_eq_emod_of_nonneg kd0
  clear h hg
  conv => arg 2; whnf
  rcases hk with hk | hk
  all_goals
    rw [hk] at hk'
    generalize actPort lo hi wh = port at *
    generalize actNow x.now tk = now at *
    generalize max now x.now = at_ at *
    generalize hff : (x.leastTo at_ (x.high - x.low + 1).toNat).2 = fr at *
    have hff' := Lib.hid hff
    have hf' : (fr == 0) = false := by simpa using hf
    clear hff
    generalize hkk : (x.leastTo at_ (x.high - x.low + 1).toNat).1 = k at *
    have hkk' := Lib.hid hkk
    clear hkk
    go_wp2_with (first
      | (go_at_call 7
         have hp := H.out.pool
         have hE := E2.out
         have hF := E3.out
         (with_reducible refine (take_some _ _ _ p now k _ hp hn hE.1 hE.2.1 hE.2.2 hF.1 hF.2.1 hF.2.2.1 hF.2.2.2).mono ?_)
         clear hp hE hF
         rintro e w1 ⟨rfl, hp1, ho1⟩
         have H1 := Lib.hid (H.out.pool' ho1 hp1)
         obtain ⟨n0, n1, n2, n3, n4, n5, n6⟩ := H1.out.note.cells
         obtain ⟨w2, w3, st, v0, r2, r3, hs3⟩ := H1.out.take_ at_ k
         have H3 := Lib.hid hs3
         clear hp1 ho1 n0 n1 n2 n4 hs3)
      | (go_at_call 9
         have hp := H1.out.note
         have hE := E1.out
         have hq := least_any _ _ _ x at_ _ hp hE.1 hE.2.1 hE.2.2
         rw [hkk'.out, hff'.out] at hq
         (with_reducible refine hq.mono ?_)
         clear hp hE hq
         rintro e w' ⟨rfl, rfl⟩))
    exact ⟨⟨rfl, rfl, rfl, rfl, rfl, rfl, rfl, rfl, rfl⟩, ⟨_, H3.out, E4.out⟩⟩
end
end Go.Proofs.Ytnpmelonkcgpgab

