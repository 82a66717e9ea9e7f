/- resent19: a tick that tells a piece -/
import Derived.Test.YtnpmelonkcgpgadResP
namespace Go.Proofs.Ytnpmelonkcgpgad
open Go.RowKit
set_option linter.unusedVariables false
set_option linter.unusedSimpArgs false
attribute [local go_sem ↓] Go.wp_at_zero Go.wp_at_succ

attribute [local go_sem high] run_min_ints3
section
variable {w wr : World} {pb xb bb c n i : Nat} {A : Option Addr} {q : BufS} {x : SentS} {first told now now0 mss k6 kd mn pl tk : Int} {mayM : Bool}

set_option maxRecDepth 100000 in
set_option maxHeartbeats 2000000 in
theorem kind_tick_ok {u1 u2 u3 u4 u5 u6 u7 u8 u9 u10 u11 u13 u17 u21 u22 u23 u24 u25 u26 u27 u28 u29 u30 u31 u32 u33 u34 u35 u36 u37 u38 u39 u40 u41 u42 u43 u44 u45 u46 u47 u48 u49 u50 u51 u52 u53 u54 u55 u56 u57 u58 u59 u60 u61 u62 u63 u64 u65 u66 u67 u68 u69 u70 u71 u72 u73 u74 u75 u76 u77 u78 u82 u83 u84 u85 u86 u87 u88 u89 u90 u91 u92 u93 u94 u95 u96 u97 u98 u99 u100 u101 u102 u103 u104 u105 u106 u107 u108 u109 u111 u112 u113 u114 u115 u116 u117 u118 u119 u120 u121 u122 u123 u124 u125 u126 u127 u128 u129 u130 u131 u132 u133 u134 u135 u136 u137 u138 u139 u140 u141 u142 u143 u144 u145 u146 u147 u148 u149 u150 u151 u152 u153 u154 u155 u156 u157 u158 u159 u160 u161 u162 u163 u164 u165 u166 u167 u168 u169 u170 u171 u172 u173 u174 u175 u176 u177 u178 u179 u180 u181 u182 u183 u184 u185 u186 u187 u188 u189 u190 u191 u192 u193 u194 u195 u196 u197 u198 u199 u200 u201 u202 u203 u204 u205 u206 u207 u208 u209 u210 u211 u212 u213 u214 u215 u216 u217 u218 u219 u220 u221 u222 u223 u224 u225 u226 u227 u228 u229 u230 u231 u232 u233 u234 u235 u236 u237 u238 u239 u240 u241 u242 u243 u244 u245 u246 u247 u248 u249 u250 u251 u252 u253 u254 u255 u256 u257 u258 u259 u260 u261 u262 u263 u264 u265 u266 u267 u268 u269 u270 u271 u272 u273 u274 u275 u276 u277 u278 u279 u280 u281 u282 u283 u284 u285 u286 u287 u288 u289 u290 u291 u292 u293 u294 u295 u296 u297 u298 u299 u300 u301 u302 u303 u304 u305 u306 u307 u308 u309 u310 u311 u312 u313 u314 u315 u316 u317 u318 u319 u320 u321 u322 u323 u324 u325 u326 u327 u328 u329 u330 u331 u332 u333 u334 u335 u336 u337 u338 u339 u340 u341 u342 u343 u344 u345 u346 u347 u348 u349 u350 u351 u352 u353 u354 u355 u356 u357 u358 u359 u360 u361 u362 u363 u364 u365 u366 u367 u368 u369 u370 u371 u372 u373 u374 u375 u376 u377 u378 u379 u380 u381 u382 u383 u384 u385 u386 u387 u388 u389 u390 u391 u392 u393 u394 u395 u396 u397 u398 u399 u400 u401 u402 u403 u404 u405 u406 u407 u408 u409 u410 u411 u412 u413 u414 u415 u416 u417 u418 u419 u420 u421 u422 u423 u424 u425 u426 u427 : Value} (h : Amid w wr pb xb bb q x kd mn pl tk) (hk : Keeps first q x now (i + 1)) (hp : x.fin ≤ i * 16385) (hi : i ≤ 59) (hm : mayB mss = true) (hk2 : x.ticks now = true) (ht0 : 0 ≤ told) (ht1 : told ≤ 10000000) :
    Code.wp Try.prog (codeAt (fbody Try.f5) [1,1,1,1,1,1,0,1,0,0,1,1,0,0,1,1,1,1,0,1]) (Exit.then (Out (fun a' => (a'.defers = [] ∧ a'.tmps.size = 428 ∧ a'.tmps[0]? = some (.int .u32 first) ∧ a'.tmps[12]? = some (.pointer (some ⟨pb, 0, none⟩)) ∧ a'.tmps[14]? = some (.pointer (some ⟨xb, 0, none⟩)) ∧ a'.tmps[15]? = some (.int .u64 now) ∧ a'.tmps[16]? = some (.int .i64 (told + 1)) ∧ a'.tmps[79]? = some (.slice A n c) ∧ a'.tmps[80]? = some (.int .i64 n) ∧ a'.tmps[81]? = some (.int .i64 i))) (fun w' => Did w w' pb xb first now (i + 1) (x.tick mss now))) Never) (⟨#[.int .u32 first, u1, u2, u3, u4, u5, u6, u7, u8, u9, u10, u11, .pointer (some ⟨pb, 0, none⟩), u13, .pointer (some ⟨xb, 0, none⟩), .int .u64 now, .int .i64 told, u17, .pointer (some ⟨bb, 0, none⟩), .int .i64 mss, .bool true, u21, u22, u23, u24, u25, u26, u27, u28, u29, u30, u31, u32, u33, u34, u35, u36, u37, u38, u39, u40, u41, u42, u43, u44, u45, u46, u47, u48, u49, u50, u51, u52, u53, u54, u55, u56, u57, u58, u59, u60, u61, u62, u63, u64, u65, u66, u67, u68, u69, u70, u71, u72, u73, u74, u75, u76, u77, u78, .slice A n c, .int .i64 n, .int .i64 i, u82, u83, u84, u85, u86, u87, u88, u89, u90, u91, u92, u93, u94, u95, u96, u97, u98, u99, u100, u101, u102, u103, u104, u105, u106, u107, u108, u109, .int .u8 4, u111, u112, u113, u114, u115, u116, u117, u118, u119, u120, u121, u122, u123, u124, u125, u126, u127, u128, u129, u130, u131, u132, u133, u134, u135, u136, u137, u138, u139, u140, u141, u142, u143, u144, u145, u146, u147, u148, u149, u150, u151, u152, u153, u154, u155, u156, u157, u158, u159, u160, u161, u162, u163, u164, u165, u166, u167, u168, u169, u170, u171, u172, u173, u174, u175, u176, u177, u178, u179, u180, u181, u182, u183, u184, u185, u186, u187, u188, u189, u190, u191, u192, u193, u194, u195, u196, u197, u198, u199, u200, u201, u202, u203, u204, u205, u206, u207, u208, u209, u210, u211, u212, u213, u214, u215, u216, u217, u218, u219, u220, u221, u222, u223, u224, u225, u226, u227, u228, u229, u230, u231, u232, u233, u234, u235, u236, u237, u238, u239, u240, u241, u242, u243, u244, u245, u246, u247, u248, u249, u250, u251, u252, u253, u254, u255, u256, u257, u258, u259, u260, u261, u262, u263, u264, u265, u266, u267, u268, u269, u270, u271, u272, u273, u274, u275, u276, u277, u278, u279, u280, u281, u282, u283, u284, u285, u286, u287, u288, u289, u290, u291, u292, u293, u294, u295, u296, u297, u298, u299, u300, u301, u302, u303, u304, u305, u306, u307, u308, u309, u310, u311, u312, u313, u314, u315, u316, u317, u318, u319, u320, u321, u322, u323, u324, u325, u326, u327, u328, u329, u330, u331, u332, u333, u334, u335, u336, u337, u338, u339, u340, u341, u342, u343, u344, u345, u346, u347, u348, u349, u350, u351, u352, u353, u354, u355, u356, u357, u358, u359, u360, u361, u362, u363, u364, u365, u366, u367, u368, u369, u370, u371, u372, u373, u374, u375, u376, u377, u378, u379, u380, u381, u382, u383, u384, u385, u386, u387, u388, u389, u390, u391, u392, u393, u394, u395, u396, u397, u398, u399, u400, u401, u402, u403, u404, u405, u406, u407, u408, u409, u410, u411, u412, u413, u414, u415, u416, u417, u418, u419, u420, u421, u422, u423, u424, u425, u426, u427], []⟩ : Act) wr := by
  have hkt := hk.tick (by omega) mss hm hk2
  have hk3 := hk2
  unfold SentS.ticks at hk3
  simp only [Bool.and_eq_true, decide_eq_true_eq, Bool.not_eq_true', beq_eq_false_iff_ne, hk.set] at hk3
  obtain ⟨⟨hlt, hal⟩, hct⟩ := hk3
  have hset := hk.set
  have hwl := hk.wait_le
  have n0 := hk.n0
  have n1 := hk.n1
  have p0 := hk.p0
  have p1 := hk.p1
  have p2 := hk.p2
  have p3 := hk.p3
  have w0 := hk.w0
  have w1 := hk.w1
  have c0 := hk.c0
  have c1 := hk.c1
  have t1 := hk.t1
  have hu := hk.u
  have m2 : 1 ≤ mss ∧ mss ≤ 1500 := by unfold mayB at hm; simpa using hm
  obtain ⟨m3, m4⟩ := m2
  have hsq : IntKind.u32.wrap (first + IntKind.u32.wrap x.una) = q.una := by
    have u32_wrap : ∀ n : Int, IntKind.u32.wrap n = n % 4294967296 := fun n => by simp [IntKind.wrap, IntKind.bits, IntKind.signed]
    rw [u32_wrap, u32_wrap, hu]; have := hk.f0; have := hk.f1; omega
  obtain ⟨tx, htx⟩ : ∃ tx, x.tickTo mss = tx := ⟨_, rfl⟩
  have htx2 : x.una + max (min (min mss (x.fin - x.una)) x.window) 1 = tx := htx
  have HTX := Lib.hid htx2
  have htb : x.una < tx ∧ tx ≤ 1000000 := by omega
  have hfin : Hid (x.tick mss now = { x with count := x.count + 1, wait := x.wait * 2, alarm := now + x.wait * 2, nxt := max x.nxt tx }) := Lib.hid (by unfold SentS.tick; rw [if_pos hk2, htx])
  have HH := Lib.hid (And.intro h.st (And.intro hk (And.intro hm (And.intro hk2 htx))))
  have HKT := Lib.hid hkt
  have hf0 := hk.f0
  have Hset := Lib.hid hset
  have hct' : (x.count == x.tries) = false := by simpa using hct
  have hpw : 0 ≤ x.wait * 2 ∧ x.wait * 2 ≤ 2199023255552 := by omega
  clear h hk hk2 hm hkt htx htx2 hset hct
  conv => arg 2; whnf
  go_upto_region 66 with (fail)
  rename_i K hK
  refine wp_part (part_ticks HH.out.1 HH.out.2.1 hi HH.out.2.2.1 HH.out.2.2.2.1) ?_
  rintro a1 W ⟨pk, q1, hT⟩
  rw [HH.out.2.2.2.2] at hT
  obtain ⟨fd_, fs_, q_0, q_12, q_14, q_15, q_16, q_18, q_19, q_20, q_34, q_35, q_36, q_79, q_80, q_81, q_110⟩ := q1
  obtain ⟨f1, rfl⟩ := frame_open fd_ fs_
  clear fd_ fs_
  rw [show ((List.range 428).map f1).toArray = #[f1 0, f1 1, f1 2, f1 3, f1 4, f1 5, f1 6, f1 7, f1 8, f1 9, f1 10, f1 11, f1 12, f1 13, f1 14, f1 15, f1 16, f1 17, f1 18, f1 19, f1 20, f1 21, f1 22, f1 23, f1 24, f1 25, f1 26, f1 27, f1 28, f1 29, f1 30, f1 31, f1 32, f1 33, f1 34, f1 35, f1 36, f1 37, f1 38, f1 39, f1 40, f1 41, f1 42, f1 43, f1 44, f1 45, f1 46, f1 47, f1 48, f1 49, f1 50, f1 51, f1 52, f1 53, f1 54, f1 55, f1 56, f1 57, f1 58, f1 59, f1 60, f1 61, f1 62, f1 63, f1 64, f1 65, f1 66, f1 67, f1 68, f1 69, f1 70, f1 71, f1 72, f1 73, f1 74, f1 75, f1 76, f1 77, f1 78, f1 79, f1 80, f1 81, f1 82, f1 83, f1 84, f1 85, f1 86, f1 87, f1 88, f1 89, f1 90, f1 91, f1 92, f1 93, f1 94, f1 95, f1 96, f1 97, f1 98, f1 99, f1 100, f1 101, f1 102, f1 103, f1 104, f1 105, f1 106, f1 107, f1 108, f1 109, f1 110, f1 111, f1 112, f1 113, f1 114, f1 115, f1 116, f1 117, f1 118, f1 119, f1 120, f1 121, f1 122, f1 123, f1 124, f1 125, f1 126, f1 127, f1 128, f1 129, f1 130, f1 131, f1 132, f1 133, f1 134, f1 135, f1 136, f1 137, f1 138, f1 139, f1 140, f1 141, f1 142, f1 143, f1 144, f1 145, f1 146, f1 147, f1 148, f1 149, f1 150, f1 151, f1 152, f1 153, f1 154, f1 155, f1 156, f1 157, f1 158, f1 159, f1 160, f1 161, f1 162, f1 163, f1 164, f1 165, f1 166, f1 167, f1 168, f1 169, f1 170, f1 171, f1 172, f1 173, f1 174, f1 175, f1 176, f1 177, f1 178, f1 179, f1 180, f1 181, f1 182, f1 183, f1 184, f1 185, f1 186, f1 187, f1 188, f1 189, f1 190, f1 191, f1 192, f1 193, f1 194, f1 195, f1 196, f1 197, f1 198, f1 199, f1 200, f1 201, f1 202, f1 203, f1 204, f1 205, f1 206, f1 207, f1 208, f1 209, f1 210, f1 211, f1 212, f1 213, f1 214, f1 215, f1 216, f1 217, f1 218, f1 219, f1 220, f1 221, f1 222, f1 223, f1 224, f1 225, f1 226, f1 227, f1 228, f1 229, f1 230, f1 231, f1 232, f1 233, f1 234, f1 235, f1 236, f1 237, f1 238, f1 239, f1 240, f1 241, f1 242, f1 243, f1 244, f1 245, f1 246, f1 247, f1 248, f1 249, f1 250, f1 251, f1 252, f1 253, f1 254, f1 255, f1 256, f1 257, f1 258, f1 259, f1 260, f1 261, f1 262, f1 263, f1 264, f1 265, f1 266, f1 267, f1 268, f1 269, f1 270, f1 271, f1 272, f1 273, f1 274, f1 275, f1 276, f1 277, f1 278, f1 279, f1 280, f1 281, f1 282, f1 283, f1 284, f1 285, f1 286, f1 287, f1 288, f1 289, f1 290, f1 291, f1 292, f1 293, f1 294, f1 295, f1 296, f1 297, f1 298, f1 299, f1 300, f1 301, f1 302, f1 303, f1 304, f1 305, f1 306, f1 307, f1 308, f1 309, f1 310, f1 311, f1 312, f1 313, f1 314, f1 315, f1 316, f1 317, f1 318, f1 319, f1 320, f1 321, f1 322, f1 323, f1 324, f1 325, f1 326, f1 327, f1 328, f1 329, f1 330, f1 331, f1 332, f1 333, f1 334, f1 335, f1 336, f1 337, f1 338, f1 339, f1 340, f1 341, f1 342, f1 343, f1 344, f1 345, f1 346, f1 347, f1 348, f1 349, f1 350, f1 351, f1 352, f1 353, f1 354, f1 355, f1 356, f1 357, f1 358, f1 359, f1 360, f1 361, f1 362, f1 363, f1 364, f1 365, f1 366, f1 367, f1 368, f1 369, f1 370, f1 371, f1 372, f1 373, f1 374, f1 375, f1 376, f1 377, f1 378, f1 379, f1 380, f1 381, f1 382, f1 383, f1 384, f1 385, f1 386, f1 387, f1 388, f1 389, f1 390, f1 391, f1 392, f1 393, f1 394, f1 395, f1 396, f1 397, f1 398, f1 399, f1 400, f1 401, f1 402, f1 403, f1 404, f1 405, f1 406, f1 407, f1 408, f1 409, f1 410, f1 411, f1 412, f1 413, f1 414, f1 415, f1 416, f1 417, f1 418, f1 419, f1 420, f1 421, f1 422, f1 423, f1 424, f1 425, f1 426, f1 427] from rfl]
  rw [frame_get q_0, frame_get q_12, frame_get q_14, frame_get q_15, frame_get q_16, frame_get q_18, frame_get q_19, frame_get q_20, frame_get q_34, frame_get q_35, frame_get q_36, frame_get q_79, frame_get q_80, frame_get q_81, frame_get q_110]
  clear q_0 q_12 q_14 q_15 q_16 q_18 q_19 q_20 q_34 q_35 q_36 q_79 q_80 q_81 q_110
  refine hK _ _ ?_
  clear hK K
  have HTd := Lib.hid hT
  obtain ⟨g0, g1, g2, g3, g4, g5, g6, g7, g8, g9⟩ := hT.st.note.cells
  rw [Hset.out, decide_eq_true hlt] at g9
  have gf8 := Blk.frozen hT.st.note 8
  have gf4 := Blk.frozen hT.st.note 4
  have gf6 := Blk.frozen hT.st.note 6
  have hnn : SentAt (((W.setCell ⟨xb, 8, none⟩ (.int .i64 (x.count + 1))).setCell ⟨xb, 4, none⟩ (.int .u64 (x.wait * 2))).setCell ⟨xb, 6, none⟩ (.int .u64 (now + x.wait * 2))) xb { x with count := x.count + 1, wait := x.wait * 2, alarm := now + x.wait * 2 } :=
    Blk.set_ (Blk.set_ (Blk.set_ hT.st.note 8 _) 4 _) 6 _
  have hoo : Only [xb] W (((W.setCell ⟨xb, 8, none⟩ (.int .i64 (x.count + 1))).setCell ⟨xb, 4, none⟩ (.int .u64 (x.wait * 2))).setCell ⟨xb, 6, none⟩ (.int .u64 (now + x.wait * 2))) :=
    (((Only.refl _ _).setCell (.inl (by simp)) _).setCell (.inl (by simp)) _).setCell (.inl (by simp)) _
  obtain ⟨Ad, cd, hrow, hsl, hadn⟩ := hT.row
  have hst1 := Lib.hid (hT.st.note_ hnn hoo)
  have hrow1 := Lib.hid (hrow.only hoo (by simpa using hT.ne.2))
  have hbl := hT.st.note.lt
  have hsl1 := Lib.hid (sl_only hsl hoo (fun a ha => by simpa using hadn a ha))
  clear hT hnn hoo hrow hsl hadn
  go_upto_region 71 with (fail)
  have e37 : x.una + max (min mss (min (x.fin - x.una) x.window)) 1 = tx := by have := HTX.out; omega
  rw [e37]
  rename_i K2 hK2 K hK
  refine wp_part (part_again x.una q.una _ Ad cd hst1.out.note hrow1.out hsl1.out rfl rfl p0 htb.1 htb.2 hsq) ?_
  rintro a2 W2 ⟨q2, hb2⟩
  obtain ⟨fd_, fs_, q_0, q_12, q_14, q_15, q_16, q_34, q_35, q_36, q_37, q_79, q_80, q_81, q_381⟩ := q2
  obtain ⟨f2, rfl⟩ := frame_open fd_ fs_
  clear fd_ fs_
  rw [show ((List.range 428).map f2).toArray = #[f2 0, f2 1, f2 2, f2 3, f2 4, f2 5, f2 6, f2 7, f2 8, f2 9, f2 10, f2 11, f2 12, f2 13, f2 14, f2 15, f2 16, f2 17, f2 18, f2 19, f2 20, f2 21, f2 22, f2 23, f2 24, f2 25, f2 26, f2 27, f2 28, f2 29, f2 30, f2 31, f2 32, f2 33, f2 34, f2 35, f2 36, f2 37, f2 38, f2 39, f2 40, f2 41, f2 42, f2 43, f2 44, f2 45, f2 46, f2 47, f2 48, f2 49, f2 50, f2 51, f2 52, f2 53, f2 54, f2 55, f2 56, f2 57, f2 58, f2 59, f2 60, f2 61, f2 62, f2 63, f2 64, f2 65, f2 66, f2 67, f2 68, f2 69, f2 70, f2 71, f2 72, f2 73, f2 74, f2 75, f2 76, f2 77, f2 78, f2 79, f2 80, f2 81, f2 82, f2 83, f2 84, f2 85, f2 86, f2 87, f2 88, f2 89, f2 90, f2 91, f2 92, f2 93, f2 94, f2 95, f2 96, f2 97, f2 98, f2 99, f2 100, f2 101, f2 102, f2 103, f2 104, f2 105, f2 106, f2 107, f2 108, f2 109, f2 110, f2 111, f2 112, f2 113, f2 114, f2 115, f2 116, f2 117, f2 118, f2 119, f2 120, f2 121, f2 122, f2 123, f2 124, f2 125, f2 126, f2 127, f2 128, f2 129, f2 130, f2 131, f2 132, f2 133, f2 134, f2 135, f2 136, f2 137, f2 138, f2 139, f2 140, f2 141, f2 142, f2 143, f2 144, f2 145, f2 146, f2 147, f2 148, f2 149, f2 150, f2 151, f2 152, f2 153, f2 154, f2 155, f2 156, f2 157, f2 158, f2 159, f2 160, f2 161, f2 162, f2 163, f2 164, f2 165, f2 166, f2 167, f2 168, f2 169, f2 170, f2 171, f2 172, f2 173, f2 174, f2 175, f2 176, f2 177, f2 178, f2 179, f2 180, f2 181, f2 182, f2 183, f2 184, f2 185, f2 186, f2 187, f2 188, f2 189, f2 190, f2 191, f2 192, f2 193, f2 194, f2 195, f2 196, f2 197, f2 198, f2 199, f2 200, f2 201, f2 202, f2 203, f2 204, f2 205, f2 206, f2 207, f2 208, f2 209, f2 210, f2 211, f2 212, f2 213, f2 214, f2 215, f2 216, f2 217, f2 218, f2 219, f2 220, f2 221, f2 222, f2 223, f2 224, f2 225, f2 226, f2 227, f2 228, f2 229, f2 230, f2 231, f2 232, f2 233, f2 234, f2 235, f2 236, f2 237, f2 238, f2 239, f2 240, f2 241, f2 242, f2 243, f2 244, f2 245, f2 246, f2 247, f2 248, f2 249, f2 250, f2 251, f2 252, f2 253, f2 254, f2 255, f2 256, f2 257, f2 258, f2 259, f2 260, f2 261, f2 262, f2 263, f2 264, f2 265, f2 266, f2 267, f2 268, f2 269, f2 270, f2 271, f2 272, f2 273, f2 274, f2 275, f2 276, f2 277, f2 278, f2 279, f2 280, f2 281, f2 282, f2 283, f2 284, f2 285, f2 286, f2 287, f2 288, f2 289, f2 290, f2 291, f2 292, f2 293, f2 294, f2 295, f2 296, f2 297, f2 298, f2 299, f2 300, f2 301, f2 302, f2 303, f2 304, f2 305, f2 306, f2 307, f2 308, f2 309, f2 310, f2 311, f2 312, f2 313, f2 314, f2 315, f2 316, f2 317, f2 318, f2 319, f2 320, f2 321, f2 322, f2 323, f2 324, f2 325, f2 326, f2 327, f2 328, f2 329, f2 330, f2 331, f2 332, f2 333, f2 334, f2 335, f2 336, f2 337, f2 338, f2 339, f2 340, f2 341, f2 342, f2 343, f2 344, f2 345, f2 346, f2 347, f2 348, f2 349, f2 350, f2 351, f2 352, f2 353, f2 354, f2 355, f2 356, f2 357, f2 358, f2 359, f2 360, f2 361, f2 362, f2 363, f2 364, f2 365, f2 366, f2 367, f2 368, f2 369, f2 370, f2 371, f2 372, f2 373, f2 374, f2 375, f2 376, f2 377, f2 378, f2 379, f2 380, f2 381, f2 382, f2 383, f2 384, f2 385, f2 386, f2 387, f2 388, f2 389, f2 390, f2 391, f2 392, f2 393, f2 394, f2 395, f2 396, f2 397, f2 398, f2 399, f2 400, f2 401, f2 402, f2 403, f2 404, f2 405, f2 406, f2 407, f2 408, f2 409, f2 410, f2 411, f2 412, f2 413, f2 414, f2 415, f2 416, f2 417, f2 418, f2 419, f2 420, f2 421, f2 422, f2 423, f2 424, f2 425, f2 426, f2 427] from rfl]
  rw [frame_get q_0, frame_get q_12, frame_get q_14, frame_get q_15, frame_get q_16, frame_get q_34, frame_get q_35, frame_get q_36, frame_get q_37, frame_get q_79, frame_get q_80, frame_get q_81, frame_get q_381]
  clear q_0 q_12 q_14 q_15 q_16 q_34 q_35 q_36 q_37 q_79 q_80 q_81 q_381
  refine hK _ _ ?_
  clear hK K e37
  have hst2 := hst1.out.grow hb2
  have k1 := hst2.note.cells.2.1
  simp only at k1
  have kf := Blk.frozen hst2.note 1
  have hn3 : SentAt (W2.setCell ⟨xb, 1, none⟩ (.int .i64 (max x.nxt tx))) xb { x with count := x.count + 1, wait := x.wait * 2, alarm := now + x.wait * 2, nxt := max x.nxt tx } := Blk.set_ hst2.note 1 _
  have ho3 : Only [xb] W2 (W2.setCell ⟨xb, 1, none⟩ (.int .i64 (max x.nxt tx))) := (Only.refl _ _).setCell (.inl (by simp)) _
  have hst3 := Lib.hid (hst2.note_ hn3 ho3)
  clear hst2 hn3 ho3 hb2
  go_wp2_with (fail)
  refine ⟨⟨rfl, rfl, rfl, rfl, rfl, rfl, rfl, rfl, rfl, rfl⟩, ?_⟩
  have hkx := HKT.out
  rw [hfin.out] at hkx ⊢
  exact ⟨_, hst3.out, hkx⟩
end
end Go.Proofs.Ytnpmelonkcgpgad

