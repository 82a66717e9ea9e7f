/- ported11, what it holds between two acts; the statements that reckon when and which. -/
import Derived.Test.YtnpmelonkcgpgabSim
import Derived.Test.YtnpmelonkcgpgabCopy
import Derived.Test.YtnpmelonkcgpgabCopied
import Derived.Test.YtnpmelonkcgpgabParts
namespace Go.Proofs.Ytnpmelonkcgpgab
open Go.RowKit
set_option linter.unusedVariables false
set_option linter.unusedSimpArgs false

/-- The acts' cells. -/
def actCells : List Act3 → List Value
  | [] => []
  | a :: l => .int .u8 a.1 :: .int .u8 a.2.1 :: .int .i16 a.2.2 :: actCells l

/-- All that ported11 holds between two acts. -/
structure St (w wr : World) (pb pt pu xb xt xf : Nat) (p : PoolS) (x : NoteS) : Prop where
  pool : PoolAt wr pb pt pu p
  note : NoteAt wr xb xt xf x
  d1 : xb ∉ [pb, pt, pu]
  d2 : xt ∉ [pb, pt, pu]
  d3 : xf ∉ [pb, pt, pu]
  lo : w.heap.size ≤ pb ∧ w.heap.size ≤ pt ∧ w.heap.size ≤ pu ∧ w.heap.size ≤ xb ∧ w.heap.size ≤ xt ∧ w.heap.size ≤ xf
  bel : Below w.heap.size w wr

section
variable {w wr wb : World} {pb pt pu xb xt xf : Nat} {p p' : PoolS} {x x' : NoteS}
theorem St.pool' (m : St w wr pb pt pu xb xt xf p x) (ho : Only [pb, pt, pu] wr wb) (hp : PoolAt wb pb pt pu p') : St w wb pb pt pu xb xt xf p' x :=
  ⟨hp, ⟨m.note.1.only ho m.d1, m.note.2.1.only ho m.d2, m.note.2.2.1.only ho m.d3, m.note.2.2.2⟩, m.d1, m.d2, m.d3, m.lo, m.bel.trans (ho.toBelow m.bel.size (by have := m.lo; simp; omega))⟩
theorem St.note' (m : St w wr pb pt pu xb xt xf p x) (ho : Only [xb, xt, xf] wr wb) (hp : NoteAt wb xb xt xf x') : St w wb pb pt pu xb xt xf p x' :=
  ⟨m.pool.only ho (by have := m.d1; have := m.d2; have := m.d3; simp at *; omega) (by have := m.d1; have := m.d2; have := m.d3; simp at *; omega) (by have := m.d1; have := m.d2; have := m.d3; simp at *; omega), hp, m.d1, m.d2, m.d3, m.lo, m.bel.trans (ho.toBelow m.bel.size (by have := m.lo; simp; omega))⟩
theorem St.drewN (m : St w wr pb pt pu xb xt xf p x) (n : Nat) : St w (wr.drewN n) pb pt pu xb xt xf p x := ⟨m.pool, m.note, m.d1, m.d2, m.d3, m.lo, ⟨m.bel.os, m.bel.tape, m.bel.output, m.bel.size, m.bel.block⟩⟩
theorem St.grow (m : St w wr pb pt pu xb xt xf p x) (ho : Below wr.heap.size wr wb) : St w wb pb pt pu xb xt xf p x :=
  ⟨m.pool.only (Only.below (S := []) ho) (by simp) (by simp) (by simp), ⟨m.note.1.below ho m.note.1.lt, m.note.2.1.below ho m.note.2.1.lt, m.note.2.2.1.below ho m.note.2.2.1.lt, m.note.2.2.2⟩, m.d1, m.d2, m.d3, m.lo, m.bel.trans (ho.mono m.bel.size)⟩
end

theorem actCells_length : ∀ l : List Act3, (actCells l).length = 3 * l.length
  | [] => rfl
  | a :: l => by simp [actCells, actCells_length l]; omega
theorem actCells_get : ∀ (l : List Act3) (i : Nat) (h : i < l.length), (actCells l)[i * 3]? = some (.int .u8 (l[i]).1) ∧ (actCells l)[i * 3 + 1]? = some (.int .u8 (l[i]).2.1) ∧ (actCells l)[i * 3 + 2]? = some (.int .i16 (l[i]).2.2)
  | a :: l, 0, _ => ⟨rfl, rfl, rfl⟩
  | a :: l, i + 1, h => by
    have := actCells_get l i (by simpa using h)
    simp only [actCells, show (i + 1) * 3 = i * 3 + 1 + 1 + 1 by omega, show i * 3 + 1 + 1 + 1 + 1 = (i * 3 + 1) + 1 + 1 + 1 by omega, show i * 3 + 1 + 1 + 1 + 2 = (i * 3 + 2) + 1 + 1 + 1 by omega, List.getElem?_cons_succ, List.getElem_cons_succ]
    exact this


section
variable {w wr : World} {pb pt pu xb xt xf bb c n i : Nat} {A : Option Addr} {p : PoolS} {x : NoteS} {lo hi rest many kd wh tk : Int}

/-- .. and in the middle of an act. -/
def Amid (w wr : World) (pb pt pu xb xt xf bb : Nat) (p : PoolS) (x : NoteS) (kd wh tk : Int) : Prop :=
  St w wr pb pt pu xb xt xf p x ∧ Blk wr bb 38 #[.int .u8 kd, .int .u8 wh, .int .i16 tk]
theorem Amid.drewN (h : Amid w wr pb pt pu xb xt xf bb p x kd wh tk) (k : Nat) : Amid w (wr.drewN k) pb pt pu xb xt xf bb p x kd wh tk := ⟨h.1.drewN k, h.2⟩


/-- What a part leaves: the frame and the middle of an act. -/
structure Out (K : Act → Prop) (M : World → Prop) (a : Act) (w : World) : Prop where
  k : K a
  m : M w

set_option maxRecDepth 100000 in
theorem part_r11 {u0 u1 u3 u4 u5 u6 u7 u8 u9 u11 u14 u16 u17 u18 u19 u20 u21 u22 u23 u24 u25 u26 u27 u28 u29 u30 u31 u32 u33 u34 u35 u36 u37 u38 u39 u40 u41 u42 u43 u44 u45 u46 u47 u48 u49 u50 u51 u52 u53 u54 u55 u56 u57 u58 u59 u60 u61 u62 u63 u64 u65 u66 u67 u68 u72 u73 u74 u75 u76 u77 u78 u79 u80 u81 u82 u83 u84 u85 u86 u87 u88 u89 u90 u91 u92 u93 u94 u95 u96 u97 u98 u99 u100 u101 u102 u103 u104 u105 u106 u107 u108 u109 u110 u111 u112 u113 u114 u115 u116 u117 u118 u119 u120 u121 u122 u123 u124 u125 u126 u127 u128 u129 u130 u131 u132 u133 u134 u135 u136 u137 u138 u139 u140 u141 u142 u143 u144 u145 u146 u147 u148 u149 u150 u151 u152 u153 u154 u155 u156 u157 u158 u159 u160 u161 u162 u163 u164 u165 u166 u167 u168 u169 u170 u171 u172 u173 u174 u175 u176 u177 u178 u179 u180 u181 u182 u183 u184 u185 u186 u187 u188 u189 u190 u191 u192 u193 u194 u195 u196 u197 u198 u199 u200 u201 u202 u203 u204 u205 u206 u207 u208 u209 u210 u211 u212 u213 u214 u215 u216 u217 u218 u219 u220 u221 u222 u223 u224 u225 u226 u227 u228 u229 u230 u231 u232 u233 u234 u235 u236 u237 u238 u239 u240 u241 u242 u243 u244 u245 u246 u247 u248 u249 u250 u251 u252 u253 u254 u255 u256 u257 u258 u259 u260 u261 u262 u263 u264 u265 u266 u267 u268 u269 u270 u271 u272 u273 u274 u275 u276 u277 u278 u279 u280 u281 u282 u283 u284 u285 u286 u287 u288 u289 u290 u291 u292 u293 u294 u295 u296 u297 u298 u299 u300 u301 u302 u303 u304 u305 u306 u307 u308 u309 u310 u311 u312 u313 u314 u315 u316 u317 u318 u319 u320 u321 u322 u323 u324 u325 u326 u327 u328 u329 u330 u331 u332 : Value} (h : Amid w wr pb pt pu xb xt xf bb p x kd wh tk) :
    Code.wp Try.prog (codeAt (fbody Try.f5) [1,1,1,1,1,1,0,1,0,0,1,1,0,0,1,0]) (Exit.then (Out (fun a' => (a'.defers = [] ∧ a'.tmps.size = 333 ∧ a'.tmps[2]? = some (.int .u64 rest) ∧ a'.tmps[10]? = some (.pointer (some ⟨pb, 0, none⟩)) ∧ a'.tmps[12]? = some (.pointer (some ⟨xb, 0, none⟩)) ∧ a'.tmps[13]? = some (.int .i64 many) ∧ a'.tmps[15]? = some (.pointer (some ⟨bb, 0, none⟩)) ∧ a'.tmps[16]? = some (.int .u64 (IntKind.u64.wrap (x.now + IntKind.u64.wrap tk))) ∧ a'.tmps[69]? = some (.slice A n c) ∧ a'.tmps[70]? = some (.int .i64 n) ∧ a'.tmps[71]? = some (.int .i64 i))) (fun w' => Amid w w' pb pt pu xb xt xf bb p x kd wh tk)) Never) (⟨#[u0, u1, .int .u64 rest, u3, u4, u5, u6, u7, u8, u9, .pointer (some ⟨pb, 0, none⟩), u11, .pointer (some ⟨xb, 0, none⟩), .int .i64 many, u14, .pointer (some ⟨bb, 0, none⟩), u16, u17, u18, u19, u20, u21, u22, u23, u24, u25, u26, u27, u28, u29, u30, u31, u32, u33, u34, u35, u36, u37, u38, u39, u40, u41, u42, u43, u44, u45, u46, u47, u48, u49, u50, u51, u52, u53, u54, u55, u56, u57, u58, u59, u60, u61, u62, u63, u64, u65, u66, u67, u68, .slice A n c, .int .i64 n, .int .i64 i, u72, u73, u74, u75, u76, u77, u78, u79, u80, u81, u82, u83, u84, u85, u86, u87, u88, u89, u90, u91, u92, u93, u94, u95, u96, u97, u98, u99, u100, u101, u102, u103, u104, u105, u106, u107, u108, u109, u110, u111, u112, u113, u114, u115, u116, u117, u118, u119, u120, u121, u122, u123, u124, u125, u126, u127, u128, u129, u130, u131, u132, u133, u134, u135, u136, u137, u138, u139, u140, u141, u142, u143, u144, u145, u146, u147, u148, u149, u150, u151, u152, u153, u154, u155, u156, u157, u158, u159, u160, u161, u162, u163, u164, u165, u166, u167, u168, u169, u170, u171, u172, u173, u174, u175, u176, u177, u178, u179, u180, u181, u182, u183, u184, u185, u186, u187, u188, u189, u190, u191, u192, u193, u194, u195, u196, u197, u198, u199, u200, u201, u202, u203, u204, u205, u206, u207, u208, u209, u210, u211, u212, u213, u214, u215, u216, u217, u218, u219, u220, u221, u222, u223, u224, u225, u226, u227, u228, u229, u230, u231, u232, u233, u234, u235, u236, u237, u238, u239, u240, u241, u242, u243, u244, u245, u246, u247, u248, u249, u250, u251, u252, u253, u254, u255, u256, u257, u258, u259, u260, u261, u262, u263, u264, u265, u266, u267, u268, u269, u270, u271, u272, u273, u274, u275, u276, u277, u278, u279, u280, u281, u282, u283, u284, u285, u286, u287, u288, u289, u290, u291, u292, u293, u294, u295, u296, u297, u298, u299, u300, u301, u302, u303, u304, u305, u306, u307, u308, u309, u310, u311, u312, u313, u314, u315, u316, u317, u318, u319, u320, u321, u322, u323, u324, u325, u326, u327, u328, u329, u330, u331, u332], []⟩ : Act) wr := by
  obtain ⟨n0, n1, n2, n3, n4, n5, n6⟩ := h.1.note.cells
  have k2 := h.2.cell 2
  have H := Lib.hid h
  clear h n0 n1 n2 n3 n4 n6
  conv => arg 2; whnf
  go_quiet (fail)
  go_wp2
  exact ⟨⟨rfl, rfl, rfl, rfl, rfl, rfl, rfl, rfl, rfl, rfl, rfl⟩, H.out.drewN _⟩

theorem now_back (h0 : 0 ≤ x.now) (h1 : x.now ≤ 1099511627776) (t0 : -32768 ≤ tk) (t1 : tk ≤ 32767) (h : ¬ (tk < 0 ∧ x.now < -tk)) : IntKind.u64.wrap (x.now + IntKind.u64.wrap tk) = actNow x.now tk := by
  unfold actNow
  rw [if_neg h]
  simp only [IntKind.wrap, IntKind.bits, IntKind.signed]
  simp
  omega

set_option maxRecDepth 100000 in
theorem part_when {u0 u1 u3 u4 u5 u6 u7 u8 u9 u11 u14 u17 u18 u19 u20 u21 u22 u23 u24 u25 u26 u27 u28 u29 u30 u31 u32 u33 u34 u35 u36 u37 u38 u39 u40 u41 u42 u43 u44 u45 u46 u47 u48 u49 u50 u51 u52 u53 u54 u55 u56 u57 u58 u59 u60 u61 u62 u63 u64 u65 u66 u67 u68 u72 u73 u74 u75 u76 u77 u78 u79 u80 u81 u82 u83 u84 u85 u86 u87 u88 u89 u90 u91 u92 u93 u94 u95 u96 u97 u98 u99 u100 u101 u102 u103 u104 u105 u106 u107 u108 u109 u110 u111 u112 u113 u114 u115 u116 u117 u118 u119 u120 u121 u122 u123 u124 u125 u126 u127 u128 u129 u130 u131 u132 u133 u134 u135 u136 u137 u138 u139 u140 u141 u142 u143 u144 u145 u146 u147 u148 u149 u150 u151 u152 u153 u154 u155 u156 u157 u158 u159 u160 u161 u162 u163 u164 u165 u166 u167 u168 u169 u170 u171 u172 u173 u174 u175 u176 u177 u178 u179 u180 u181 u182 u183 u184 u185 u186 u187 u188 u189 u190 u191 u192 u193 u194 u195 u196 u197 u198 u199 u200 u201 u202 u203 u204 u205 u206 u207 u208 u209 u210 u211 u212 u213 u214 u215 u216 u217 u218 u219 u220 u221 u222 u223 u224 u225 u226 u227 u228 u229 u230 u231 u232 u233 u234 u235 u236 u237 u238 u239 u240 u241 u242 u243 u244 u245 u246 u247 u248 u249 u250 u251 u252 u253 u254 u255 u256 u257 u258 u259 u260 u261 u262 u263 u264 u265 u266 u267 u268 u269 u270 u271 u272 u273 u274 u275 u276 u277 u278 u279 u280 u281 u282 u283 u284 u285 u286 u287 u288 u289 u290 u291 u292 u293 u294 u295 u296 u297 u298 u299 u300 u301 u302 u303 u304 u305 u306 u307 u308 u309 u310 u311 u312 u313 u314 u315 u316 u317 u318 u319 u320 u321 u322 u323 u324 u325 u326 u327 u328 u329 u330 u331 u332 : Value} (h : Amid w wr pb pt pu xb xt xf bb p x kd wh tk) (h0 : 0 ≤ x.now) (h1 : x.now ≤ 1099511627776) (t0 : -32768 ≤ tk) (t1 : tk ≤ 32767) :
    Code.wp Try.prog (codeAt (fbody Try.f5) [1,1,1,1,1,1,0,1,0,0,1,1,0,0,1,1,0]) (Exit.then (Out (fun a' => (a'.defers = [] ∧ a'.tmps.size = 333 ∧ a'.tmps[2]? = some (.int .u64 rest) ∧ a'.tmps[10]? = some (.pointer (some ⟨pb, 0, none⟩)) ∧ a'.tmps[12]? = some (.pointer (some ⟨xb, 0, none⟩)) ∧ a'.tmps[13]? = some (.int .i64 many) ∧ a'.tmps[15]? = some (.pointer (some ⟨bb, 0, none⟩)) ∧ a'.tmps[16]? = some (.int .u64 (actNow x.now tk)) ∧ a'.tmps[69]? = some (.slice A n c) ∧ a'.tmps[70]? = some (.int .i64 n) ∧ a'.tmps[71]? = some (.int .i64 i))) (fun w' => Amid w w' pb pt pu xb xt xf bb p x kd wh tk)) Never) (⟨#[u0, u1, .int .u64 rest, u3, u4, u5, u6, u7, u8, u9, .pointer (some ⟨pb, 0, none⟩), u11, .pointer (some ⟨xb, 0, none⟩), .int .i64 many, u14, .pointer (some ⟨bb, 0, none⟩), .int .u64 (IntKind.u64.wrap (x.now + IntKind.u64.wrap tk)), u17, u18, u19, u20, u21, u22, u23, u24, u25, u26, u27, u28, u29, u30, u31, u32, u33, u34, u35, u36, u37, u38, u39, u40, u41, u42, u43, u44, u45, u46, u47, u48, u49, u50, u51, u52, u53, u54, u55, u56, u57, u58, u59, u60, u61, u62, u63, u64, u65, u66, u67, u68, .slice A n c, .int .i64 n, .int .i64 i, u72, u73, u74, u75, u76, u77, u78, u79, u80, u81, u82, u83, u84, u85, u86, u87, u88, u89, u90, u91, u92, u93, u94, u95, u96, u97, u98, u99, u100, u101, u102, u103, u104, u105, u106, u107, u108, u109, u110, u111, u112, u113, u114, u115, u116, u117, u118, u119, u120, u121, u122, u123, u124, u125, u126, u127, u128, u129, u130, u131, u132, u133, u134, u135, u136, u137, u138, u139, u140, u141, u142, u143, u144, u145, u146, u147, u148, u149, u150, u151, u152, u153, u154, u155, u156, u157, u158, u159, u160, u161, u162, u163, u164, u165, u166, u167, u168, u169, u170, u171, u172, u173, u174, u175, u176, u177, u178, u179, u180, u181, u182, u183, u184, u185, u186, u187, u188, u189, u190, u191, u192, u193, u194, u195, u196, u197, u198, u199, u200, u201, u202, u203, u204, u205, u206, u207, u208, u209, u210, u211, u212, u213, u214, u215, u216, u217, u218, u219, u220, u221, u222, u223, u224, u225, u226, u227, u228, u229, u230, u231, u232, u233, u234, u235, u236, u237, u238, u239, u240, u241, u242, u243, u244, u245, u246, u247, u248, u249, u250, u251, u252, u253, u254, u255, u256, u257, u258, u259, u260, u261, u262, u263, u264, u265, u266, u267, u268, u269, u270, u271, u272, u273, u274, u275, u276, u277, u278, u279, u280, u281, u282, u283, u284, u285, u286, u287, u288, u289, u290, u291, u292, u293, u294, u295, u296, u297, u298, u299, u300, u301, u302, u303, u304, u305, u306, u307, u308, u309, u310, u311, u312, u313, u314, u315, u316, u317, u318, u319, u320, u321, u322, u323, u324, u325, u326, u327, u328, u329, u330, u331, u332], []⟩ : Act) wr := by
  obtain ⟨n0, n1, n2, n3, n4, n5, n6⟩ := h.1.note.cells
  have k2 := h.2.cell 2
  have H := Lib.hid h
  clear h n0 n1 n2 n3 n4 n6
  conv => arg 2; whnf
  by_cases c1 : tk < 0
  · have e1 : IntKind.u64.wrap (-tk) = -tk := IntWalk.u64_in _ (by omega)
    have e2 : IntKind.i64.wrap (-tk) = -tk := IntWalk.i64_in _ (by omega)
    by_cases c2 : x.now < -tk
    · have e3 : IntKind.u64.wrap (1099511627776 + -tk) = 1099511627776 + -tk := IntWalk.u64_in _ (by omega)
      have e4 : actNow x.now tk = 1099511627776 + -tk := by unfold actNow; rw [if_pos ⟨c1, c2⟩]
      rw [e4]
      clear e4
      go_wp2_with (fail)
      go_quiet (fail)
      go_wp2
      exact ⟨⟨rfl, rfl, rfl, rfl, rfl, rfl, rfl, rfl, rfl, rfl, rfl⟩, H.out.drewN _⟩
    · have e4 := now_back h0 h1 t0 t1 (fun h => c2 h.2)
      rw [e4]
      clear e4
      go_wp2_with (fail)
      go_quiet (fail)
      go_wp2
      exact ⟨⟨rfl, rfl, rfl, rfl, rfl, rfl, rfl, rfl, rfl, rfl, rfl⟩, H.out.drewN _⟩
  · have c1' : decide (tk < 0) = false := decide_eq_false c1
    have e4 := now_back h0 h1 t0 t1 (fun h => c1 h.1)
    rw [e4]
    clear e4
    go_wp2_with (fail)
    go_quiet (fail)
    go_wp2
    exact ⟨⟨rfl, rfl, rfl, rfl, rfl, rfl, rfl, rfl, rfl, rfl, rfl⟩, H.out.drewN _⟩

set_option maxRecDepth 100000 in
theorem part_at {u0 u1 u3 u4 u5 u6 u7 u8 u9 u11 u14 u17 u18 u19 u20 u21 u22 u23 u24 u25 u26 u27 u28 u29 u30 u31 u32 u33 u34 u35 u36 u37 u38 u39 u40 u41 u42 u43 u44 u45 u46 u47 u48 u49 u50 u51 u52 u53 u54 u55 u56 u57 u58 u59 u60 u61 u62 u63 u64 u65 u66 u67 u68 u72 u73 u74 u75 u76 u77 u78 u79 u80 u81 u82 u83 u84 u85 u86 u87 u88 u89 u90 u91 u92 u93 u94 u95 u96 u97 u98 u99 u100 u101 u102 u103 u104 u105 u106 u107 u108 u109 u110 u111 u112 u113 u114 u115 u116 u117 u118 u119 u120 u121 u122 u123 u124 u125 u126 u127 u128 u129 u130 u131 u132 u133 u134 u135 u136 u137 u138 u139 u140 u141 u142 u143 u144 u145 u146 u147 u148 u149 u150 u151 u152 u153 u154 u155 u156 u157 u158 u159 u160 u161 u162 u163 u164 u165 u166 u167 u168 u169 u170 u171 u172 u173 u174 u175 u176 u177 u178 u179 u180 u181 u182 u183 u184 u185 u186 u187 u188 u189 u190 u191 u192 u193 u194 u195 u196 u197 u198 u199 u200 u201 u202 u203 u204 u205 u206 u207 u208 u209 u210 u211 u212 u213 u214 u215 u216 u217 u218 u219 u220 u221 u222 u223 u224 u225 u226 u227 u228 u229 u230 u231 u232 u233 u234 u235 u236 u237 u238 u239 u240 u241 u242 u243 u244 u245 u246 u247 u248 u249 u250 u251 u252 u253 u254 u255 u256 u257 u258 u259 u260 u261 u262 u263 u264 u265 u266 u267 u268 u269 u270 u271 u272 u273 u274 u275 u276 u277 u278 u279 u280 u281 u282 u283 u284 u285 u286 u287 u288 u289 u290 u291 u292 u293 u294 u295 u296 u297 u298 u299 u300 u301 u302 u303 u304 u305 u306 u307 u308 u309 u310 u311 u312 u313 u314 u315 u316 u317 u318 u319 u320 u321 u322 u323 u324 u325 u326 u327 u328 u329 u330 u331 u332 : Value} (h : Amid w wr pb pt pu xb xt xf bb p x kd wh tk) :
    Code.wp Try.prog (codeAt (fbody Try.f5) [1,1,1,1,1,1,0,1,0,0,1,1,0,0,1,1,1,0]) (Exit.then (Out (fun a' => (a'.defers = [] ∧ a'.tmps.size = 333 ∧ a'.tmps[2]? = some (.int .u64 rest) ∧ a'.tmps[10]? = some (.pointer (some ⟨pb, 0, none⟩)) ∧ a'.tmps[12]? = some (.pointer (some ⟨xb, 0, none⟩)) ∧ a'.tmps[13]? = some (.int .i64 many) ∧ a'.tmps[15]? = some (.pointer (some ⟨bb, 0, none⟩)) ∧ a'.tmps[16]? = some (.int .u64 (actNow x.now tk)) ∧ a'.tmps[17]? = some (.int .u64 (max (actNow x.now tk) x.now)) ∧ a'.tmps[69]? = some (.slice A n c) ∧ a'.tmps[70]? = some (.int .i64 n) ∧ a'.tmps[71]? = some (.int .i64 i))) (fun w' => Amid w w' pb pt pu xb xt xf bb p x kd wh tk)) Never) (⟨#[u0, u1, .int .u64 rest, u3, u4, u5, u6, u7, u8, u9, .pointer (some ⟨pb, 0, none⟩), u11, .pointer (some ⟨xb, 0, none⟩), .int .i64 many, u14, .pointer (some ⟨bb, 0, none⟩), .int .u64 (actNow x.now tk), u17, u18, u19, u20, u21, u22, u23, u24, u25, u26, u27, u28, u29, u30, u31, u32, u33, u34, u35, u36, u37, u38, u39, u40, u41, u42, u43, u44, u45, u46, u47, u48, u49, u50, u51, u52, u53, u54, u55, u56, u57, u58, u59, u60, u61, u62, u63, u64, u65, u66, u67, u68, .slice A n c, .int .i64 n, .int .i64 i, u72, u73, u74, u75, u76, u77, u78, u79, u80, u81, u82, u83, u84, u85, u86, u87, u88, u89, u90, u91, u92, u93, u94, u95, u96, u97, u98, u99, u100, u101, u102, u103, u104, u105, u106, u107, u108, u109, u110, u111, u112, u113, u114, u115, u116, u117, u118, u119, u120, u121, u122, u123, u124, u125, u126, u127, u128, u129, u130, u131, u132, u133, u134, u135, u136, u137, u138, u139, u140, u141, u142, u143, u144, u145, u146, u147, u148, u149, u150, u151, u152, u153, u154, u155, u156, u157, u158, u159, u160, u161, u162, u163, u164, u165, u166, u167, u168, u169, u170, u171, u172, u173, u174, u175, u176, u177, u178, u179, u180, u181, u182, u183, u184, u185, u186, u187, u188, u189, u190, u191, u192, u193, u194, u195, u196, u197, u198, u199, u200, u201, u202, u203, u204, u205, u206, u207, u208, u209, u210, u211, u212, u213, u214, u215, u216, u217, u218, u219, u220, u221, u222, u223, u224, u225, u226, u227, u228, u229, u230, u231, u232, u233, u234, u235, u236, u237, u238, u239, u240, u241, u242, u243, u244, u245, u246, u247, u248, u249, u250, u251, u252, u253, u254, u255, u256, u257, u258, u259, u260, u261, u262, u263, u264, u265, u266, u267, u268, u269, u270, u271, u272, u273, u274, u275, u276, u277, u278, u279, u280, u281, u282, u283, u284, u285, u286, u287, u288, u289, u290, u291, u292, u293, u294, u295, u296, u297, u298, u299, u300, u301, u302, u303, u304, u305, u306, u307, u308, u309, u310, u311, u312, u313, u314, u315, u316, u317, u318, u319, u320, u321, u322, u323, u324, u325, u326, u327, u328, u329, u330, u331, u332], []⟩ : Act) wr := by
  obtain ⟨n0, n1, n2, n3, n4, n5, n6⟩ := h.1.note.cells
  have H := Lib.hid h
  clear h n0 n1 n2 n3 n4 n6
  conv => arg 2; whnf
  go_wp2
  exact ⟨⟨rfl, rfl, rfl, rfl, rfl, rfl, rfl, rfl, rfl, rfl, rfl, rfl⟩, H.out⟩

set_option maxRecDepth 100000 in
theorem part_port {u0 u1 u3 u4 u5 u6 u7 u8 u9 u11 u14 u18 u19 u20 u21 u22 u23 u24 u25 u26 u27 u28 u29 u30 u31 u32 u33 u34 u35 u36 u37 u38 u39 u40 u41 u42 u43 u44 u45 u46 u47 u48 u49 u50 u51 u52 u53 u54 u55 u56 u57 u58 u59 u60 u61 u62 u63 u64 u65 u66 u67 u68 u72 u73 u74 u75 u76 u77 u78 u79 u80 u81 u82 u83 u84 u85 u86 u87 u88 u89 u90 u91 u92 u93 u94 u95 u96 u97 u98 u99 u100 u101 u102 u103 u104 u105 u106 u107 u108 u109 u110 u111 u112 u113 u114 u115 u116 u117 u118 u119 u120 u121 u122 u123 u124 u125 u126 u127 u128 u129 u130 u131 u132 u133 u134 u135 u136 u137 u138 u139 u140 u141 u142 u143 u144 u145 u146 u147 u148 u149 u150 u151 u152 u153 u154 u155 u156 u157 u158 u159 u160 u161 u162 u163 u164 u165 u166 u167 u168 u169 u170 u171 u172 u173 u174 u175 u176 u177 u178 u179 u180 u181 u182 u183 u184 u185 u186 u187 u188 u189 u190 u191 u192 u193 u194 u195 u196 u197 u198 u199 u200 u201 u202 u203 u204 u205 u206 u207 u208 u209 u210 u211 u212 u213 u214 u215 u216 u217 u218 u219 u220 u221 u222 u223 u224 u225 u226 u227 u228 u229 u230 u231 u232 u233 u234 u235 u236 u237 u238 u239 u240 u241 u242 u243 u244 u245 u246 u247 u248 u249 u250 u251 u252 u253 u254 u255 u256 u257 u258 u259 u260 u261 u262 u263 u264 u265 u266 u267 u268 u269 u270 u271 u272 u273 u274 u275 u276 u277 u278 u279 u280 u281 u282 u283 u284 u285 u286 u287 u288 u289 u290 u291 u292 u293 u294 u295 u296 u297 u298 u299 u300 u301 u302 u303 u304 u305 u306 u307 u308 u309 u310 u311 u312 u313 u314 u315 u316 u317 u318 u319 u320 u321 u322 u323 u324 u325 u326 u327 u328 u329 u330 u331 u332 : Value} (h : Amid w wr pb pt pu xb xt xf bb p x kd wh tk) (hl : x.low = lo) (hh : x.high = hi) (l0 : 0 < lo) (l1 : lo ≤ hi) (l2 : hi ≤ 60020) (w0 : 0 ≤ wh) (w1 : wh < 256) :
    Code.wp Try.prog (codeAt (fbody Try.f5) [1,1,1,1,1,1,0,1,0,0,1,1,0,0,1,1,1,1,0]) (Exit.then (Out (fun a' => (a'.defers = [] ∧ a'.tmps.size = 333 ∧ a'.tmps[2]? = some (.int .u64 rest) ∧ a'.tmps[10]? = some (.pointer (some ⟨pb, 0, none⟩)) ∧ a'.tmps[12]? = some (.pointer (some ⟨xb, 0, none⟩)) ∧ a'.tmps[13]? = some (.int .i64 many) ∧ a'.tmps[15]? = some (.pointer (some ⟨bb, 0, none⟩)) ∧ a'.tmps[16]? = some (.int .u64 (actNow x.now tk)) ∧ a'.tmps[17]? = some (.int .u64 (max (actNow x.now tk) x.now)) ∧ a'.tmps[18]? = some (.int .i64 (actPort lo hi wh)) ∧ a'.tmps[69]? = some (.slice A n c) ∧ a'.tmps[70]? = some (.int .i64 n) ∧ a'.tmps[71]? = some (.int .i64 i))) (fun w' => Amid w w' pb pt pu xb xt xf bb p x kd wh tk)) Never) (⟨#[u0, u1, .int .u64 rest, u3, u4, u5, u6, u7, u8, u9, .pointer (some ⟨pb, 0, none⟩), u11, .pointer (some ⟨xb, 0, none⟩), .int .i64 many, u14, .pointer (some ⟨bb, 0, none⟩), .int .u64 (actNow x.now tk), .int .u64 (max (actNow x.now tk) x.now), u18, u19, u20, u21, u22, u23, u24, u25, u26, u27, u28, u29, u30, u31, u32, u33, u34, u35, u36, u37, u38, u39, u40, u41, u42, u43, u44, u45, u46, u47, u48, u49, u50, u51, u52, u53, u54, u55, u56, u57, u58, u59, u60, u61, u62, u63, u64, u65, u66, u67, u68, .slice A n c, .int .i64 n, .int .i64 i, u72, u73, u74, u75, u76, u77, u78, u79, u80, u81, u82, u83, u84, u85, u86, u87, u88, u89, u90, u91, u92, u93, u94, u95, u96, u97, u98, u99, u100, u101, u102, u103, u104, u105, u106, u107, u108, u109, u110, u111, u112, u113, u114, u115, u116, u117, u118, u119, u120, u121, u122, u123, u124, u125, u126, u127, u128, u129, u130, u131, u132, u133, u134, u135, u136, u137, u138, u139, u140, u141, u142, u143, u144, u145, u146, u147, u148, u149, u150, u151, u152, u153, u154, u155, u156, u157, u158, u159, u160, u161, u162, u163, u164, u165, u166, u167, u168, u169, u170, u171, u172, u173, u174, u175, u176, u177, u178, u179, u180, u181, u182, u183, u184, u185, u186, u187, u188, u189, u190, u191, u192, u193, u194, u195, u196, u197, u198, u199, u200, u201, u202, u203, u204, u205, u206, u207, u208, u209, u210, u211, u212, u213, u214, u215, u216, u217, u218, u219, u220, u221, u222, u223, u224, u225, u226, u227, u228, u229, u230, u231, u232, u233, u234, u235, u236, u237, u238, u239, u240, u241, u242, u243, u244, u245, u246, u247, u248, u249, u250, u251, u252, u253, u254, u255, u256, u257, u258, u259, u260, u261, u262, u263, u264, u265, u266, u267, u268, u269, u270, u271, u272, u273, u274, u275, u276, u277, u278, u279, u280, u281, u282, u283, u284, u285, u286, u287, u288, u289, u290, u291, u292, u293, u294, u295, u296, u297, u298, u299, u300, u301, u302, u303, u304, u305, u306, u307, u308, u309, u310, u311, u312, u313, u314, u315, u316, u317, u318, u319, u320, u321, u322, u323, u324, u325, u326, u327, u328, u329, u330, u331, u332], []⟩ : Act) wr := by
  obtain ⟨n0, n1, n2, n3, n4, n5, n6⟩ := h.1.note.cells
  have k1 := h.2.cell 1
  rw [hl] at n0
  rw [hh] at n1
  have H := Lib.hid h
  clear h n2 n3 n4 n5 n6
  have e0 : ¬ hi - lo + 3 = 0 := by omega
  have e4 : IntKind.i64.wrap (hi - lo) = hi - lo := IntWalk.i64_in _ (by omega)
  have e5 : IntKind.i64.wrap (hi - lo + 3) = hi - lo + 3 := IntWalk.i64_in _ (by omega)
  have e7 : IntKind.i64.wrap wh = wh := IntWalk.i64_in _ (by omega)
  have e8 : IntKind.i64.wrap (lo - 1) = lo - 1 := IntWalk.i64_in _ (by omega)
  have e6 : (hi - lo + 3 == 0) = false := by simp; omega
  have e1 : wh.tmod (hi - lo + 3) = wh % (hi - lo + 3) := Int.tmod_eq_emod_of_nonneg w0
  have e2 := Int.emod_nonneg wh e0
  have e3 := Int.emod_lt_of_pos wh (show 0 < hi - lo + 3 by omega)
  conv => arg 2; whnf
  unfold actPort
  generalize wh % (hi - lo + 3) = m at *
  have e9 : IntKind.i64.wrap (lo - 1 + m) = lo - 1 + m := IntWalk.i64_in _ (by omega)
  go_quiet (fail)
  go_wp2
  exact ⟨⟨rfl, rfl, rfl, rfl, rfl, rfl, rfl, rfl, rfl, rfl, rfl, rfl, rfl⟩, H.out.drewN _⟩
end
end Go.Proofs.Ytnpmelonkcgpgab

