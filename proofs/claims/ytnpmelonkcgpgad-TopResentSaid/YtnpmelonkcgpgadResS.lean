/- resent19: pieces are sent -/
import Derived.Test.YtnpmelonkcgpgadResR
namespace Go.Proofs.Ytnpmelonkcgpgad
open Go.RowKit
set_option linter.unusedVariables false
set_option linter.unusedSimpArgs false
attribute [local go_sem ↓] Go.wp_at_zero Go.wp_at_succ

attribute [local go_sem high] run_min_ints3
section
variable {w wr : World} {pb xb bb c n i c2 L : Nat} {A A2 : Option Addr} {q : BufS} {x : SentS} {first told now now0 mss k6 kd mn pl tk : Int} {mayM : Bool}

theorem cuts_len (mss d : Int) : ∀ (f : Nat) (a e : Int), (cuts mss f (d + a) (d + e)).length = (cuts mss f a e).length
  | 0, _, _ => rfl
  | f + 1, a, e => by
    unfold cuts
    by_cases h : a < e
    · rw [if_pos h, if_pos (by omega)]
      have e1 : min (d + a + mss) (d + e) = d + min (a + mss) e := by omega
      rw [e1]
      simp [cuts_len mss d f (min (a + mss) e) e]
    · rw [if_neg h, if_neg (by omega)]

/-- Between two pieces that are told. -/
structure SndI (w : World) (pb xb : Nat) (q : BufS) (x : SentS) (first now told mss en : Int) (A A2 : Option Addr) (n c i c2 : Nat) (L : Nat) (hs : Nat) (all : List (Int × Int)) (vs : List (Int × Value)) (g : Nat) (a : Act) (wr : World) (j : Nat) (s : Int) (f : Nat) (done : List (Int × Int)) : Prop where
  known : (a.defers = [] ∧ a.tmps.size = 428 ∧ a.tmps[0]? = some (.int .u32 first) ∧ a.tmps[12]? = some (.pointer (some ⟨pb, 0, none⟩)) ∧ a.tmps[14]? = some (.pointer (some ⟨xb, 0, none⟩)) ∧ a.tmps[15]? = some (.int .u64 now) ∧ a.tmps[16]? = some (.int .i64 (told + j)) ∧ a.tmps[19]? = some (.int .i64 mss) ∧ a.tmps[25]? = some (.int .i64 0) ∧ a.tmps[79]? = some (.slice A n c) ∧ a.tmps[80]? = some (.int .i64 n) ∧ a.tmps[81]? = some (.int .i64 i) ∧ a.tmps[192]? = some (.slice A2 L c2) ∧ a.tmps[193]? = some (.int .i64 L) ∧ a.tmps[194]? = some (.int .i64 j))
  gg : g = L - j
  jl : done.length = j
  cut : all = done ++ cuts mss f s en
  fuel : en - s ≤ f
  s0 : q.sent ≤ s
  s1 : s ≤ max q.sent en
  st : St w wr pb xb q.send { x with nxt := x.una + s }
  sl : Sl wr A2 (pcCells vs)
  pc : PcsR wr hs vs (all.map (pieceOf q))
def SndJ (w : World) (pb xb : Nat) (q : BufS) (x : SentS) (first now told mss en : Int) (A A2 : Option Addr) (n c i c2 : Nat) (L : Nat) (hs : Nat) (all : List (Int × Int)) (vs : List (Int × Value)) (g : Nat) (a : Act) (wr : World) : Prop :=
  ∃ j s f done, SndI w pb xb q x first now told mss en A A2 n c i c2 L hs all vs g a wr j s f done

set_option maxRecDepth 100000 in
set_option maxHeartbeats 4000000 in
theorem kind_send {u1 u2 u3 u4 u5 u6 u7 u8 u9 u10 u11 u13 u17 u21 u22 u23 u24 u25 u26 u27 u28 u29 u30 u31 u32 u33 u34 u35 u36 u37 u38 u39 u40 u41 u42 u43 u44 u45 u46 u47 u48 u49 u50 u51 u52 u53 u54 u55 u56 u57 u58 u59 u60 u61 u62 u63 u64 u65 u66 u67 u68 u69 u70 u71 u72 u73 u74 u75 u76 u77 u78 u82 u83 u84 u85 u86 u87 u88 u89 u90 u91 u92 u93 u94 u95 u96 u97 u98 u99 u100 u101 u102 u103 u104 u105 u106 u107 u108 u109 u111 u112 u113 u114 u115 u116 u117 u118 u119 u120 u121 u122 u123 u124 u125 u126 u127 u128 u129 u130 u131 u132 u133 u134 u135 u136 u137 u138 u139 u140 u141 u142 u143 u144 u145 u146 u147 u148 u149 u150 u151 u152 u153 u154 u155 u156 u157 u158 u159 u160 u161 u162 u163 u164 u165 u166 u167 u168 u169 u170 u171 u172 u173 u174 u175 u176 u177 u178 u179 u180 u181 u182 u183 u184 u185 u186 u187 u188 u189 u190 u191 u192 u193 u194 u195 u196 u197 u198 u199 u200 u201 u202 u203 u204 u205 u206 u207 u208 u209 u210 u211 u212 u213 u214 u215 u216 u217 u218 u219 u220 u221 u222 u223 u224 u225 u226 u227 u228 u229 u230 u231 u232 u233 u234 u235 u236 u237 u238 u239 u240 u241 u242 u243 u244 u245 u246 u247 u248 u249 u250 u251 u252 u253 u254 u255 u256 u257 u258 u259 u260 u261 u262 u263 u264 u265 u266 u267 u268 u269 u270 u271 u272 u273 u274 u275 u276 u277 u278 u279 u280 u281 u282 u283 u284 u285 u286 u287 u288 u289 u290 u291 u292 u293 u294 u295 u296 u297 u298 u299 u300 u301 u302 u303 u304 u305 u306 u307 u308 u309 u310 u311 u312 u313 u314 u315 u316 u317 u318 u319 u320 u321 u322 u323 u324 u325 u326 u327 u328 u329 u330 u331 u332 u333 u334 u335 u336 u337 u338 u339 u340 u341 u342 u343 u344 u345 u346 u347 u348 u349 u350 u351 u352 u353 u354 u355 u356 u357 u358 u359 u360 u361 u362 u363 u364 u365 u366 u367 u368 u369 u370 u371 u372 u373 u374 u375 u376 u377 u378 u379 u380 u381 u382 u383 u384 u385 u386 u387 u388 u389 u390 u391 u392 u393 u394 u395 u396 u397 u398 u399 u400 u401 u402 u403 u404 u405 u406 u407 u408 u409 u410 u411 u412 u413 u414 u415 u416 u417 u418 u419 u420 u421 u422 u423 u424 u425 u426 u427 : Value} (h : Amid w wr pb xb bb q x kd mn pl tk) (hk : Keeps first q x now (i + 1)) (hp : x.fin ≤ i * 16385) (hi : i ≤ 59) (hm : mayB mss = true) (ht0 : 0 ≤ told) (ht1 : told ≤ 10000000) :
    Code.wp Try.prog (codeAt (fbody Try.f5) [1,1,1,1,1,1,0,1,0,0,1,1,0,0,1,1,1,1,0,1]) (Exit.then (Out (fun a' => (a'.defers = [] ∧ a'.tmps.size = 428 ∧ a'.tmps[0]? = some (.int .u32 first) ∧ a'.tmps[12]? = some (.pointer (some ⟨pb, 0, none⟩)) ∧ a'.tmps[14]? = some (.pointer (some ⟨xb, 0, none⟩)) ∧ a'.tmps[15]? = some (.int .u64 now) ∧ a'.tmps[16]? = some (.int .i64 (told + ((x.pieces mss).length : Int))) ∧ a'.tmps[79]? = some (.slice A n c) ∧ a'.tmps[80]? = some (.int .i64 n) ∧ a'.tmps[81]? = some (.int .i64 i))) (fun w' => Did w w' pb xb first now (i + 1) x.send)) Never) (⟨#[.int .u32 first, u1, u2, u3, u4, u5, u6, u7, u8, u9, u10, u11, .pointer (some ⟨pb, 0, none⟩), u13, .pointer (some ⟨xb, 0, none⟩), .int .u64 now, .int .i64 told, u17, .pointer (some ⟨bb, 0, none⟩), .int .i64 mss, .bool true, u21, u22, u23, u24, u25, u26, u27, u28, u29, u30, u31, u32, u33, u34, u35, u36, u37, u38, u39, u40, u41, u42, u43, u44, u45, u46, u47, u48, u49, u50, u51, u52, u53, u54, u55, u56, u57, u58, u59, u60, u61, u62, u63, u64, u65, u66, u67, u68, u69, u70, u71, u72, u73, u74, u75, u76, u77, u78, .slice A n c, .int .i64 n, .int .i64 i, u82, u83, u84, u85, u86, u87, u88, u89, u90, u91, u92, u93, u94, u95, u96, u97, u98, u99, u100, u101, u102, u103, u104, u105, u106, u107, u108, u109, .int .u8 2, u111, u112, u113, u114, u115, u116, u117, u118, u119, u120, u121, u122, u123, u124, u125, u126, u127, u128, u129, u130, u131, u132, u133, u134, u135, u136, u137, u138, u139, u140, u141, u142, u143, u144, u145, u146, u147, u148, u149, u150, u151, u152, u153, u154, u155, u156, u157, u158, u159, u160, u161, u162, u163, u164, u165, u166, u167, u168, u169, u170, u171, u172, u173, u174, u175, u176, u177, u178, u179, u180, u181, u182, u183, u184, u185, u186, u187, u188, u189, u190, u191, u192, u193, u194, u195, u196, u197, u198, u199, u200, u201, u202, u203, u204, u205, u206, u207, u208, u209, u210, u211, u212, u213, u214, u215, u216, u217, u218, u219, u220, u221, u222, u223, u224, u225, u226, u227, u228, u229, u230, u231, u232, u233, u234, u235, u236, u237, u238, u239, u240, u241, u242, u243, u244, u245, u246, u247, u248, u249, u250, u251, u252, u253, u254, u255, u256, u257, u258, u259, u260, u261, u262, u263, u264, u265, u266, u267, u268, u269, u270, u271, u272, u273, u274, u275, u276, u277, u278, u279, u280, u281, u282, u283, u284, u285, u286, u287, u288, u289, u290, u291, u292, u293, u294, u295, u296, u297, u298, u299, u300, u301, u302, u303, u304, u305, u306, u307, u308, u309, u310, u311, u312, u313, u314, u315, u316, u317, u318, u319, u320, u321, u322, u323, u324, u325, u326, u327, u328, u329, u330, u331, u332, u333, u334, u335, u336, u337, u338, u339, u340, u341, u342, u343, u344, u345, u346, u347, u348, u349, u350, u351, u352, u353, u354, u355, u356, u357, u358, u359, u360, u361, u362, u363, u364, u365, u366, u367, u368, u369, u370, u371, u372, u373, u374, u375, u376, u377, u378, u379, u380, u381, u382, u383, u384, u385, u386, u387, u388, u389, u390, u391, u392, u393, u394, u395, u396, u397, u398, u399, u400, u401, u402, u403, u404, u405, u406, u407, u408, u409, u410, u411, u412, u413, u414, u415, u416, u417, u418, u419, u420, u421, u422, u423, u424, u425, u426, u427], []⟩ : Act) wr := by
  have m2 : 1 ≤ mss ∧ mss ≤ 1500 := by unfold mayB at hm; simpa using hm
  obtain ⟨m3, m4⟩ := m2
  have hks := hk.send
  have hlen := hk.len
  have hw := hk.window
  have hsent := hk.sent
  have p0 := hk.p0
  have p1 := hk.p1
  have p2 := hk.p2
  have p3 := hk.p3
  have p4 := hk.p4
  have w0 := hk.w0
  have w1 := hk.w1
  have u0 := hk.u
  have f0 := hk.f0
  have f1 := hk.f1
  obtain ⟨en, hen⟩ : ∃ en, min (q.data.length : Int) q.window = en := ⟨_, rfl⟩
  have hen2 : en = min (x.fin - x.una) x.window := by rw [← hen, hlen, hw]
  have hpl : (x.pieces mss).length = (cuts mss 16384 q.sent en).length := by
    unfold SentS.pieces SentS.reach
    rw [show x.nxt = x.una + q.sent by omega, show min x.fin (x.una + x.window) = x.una + en by omega, cuts_len]
  have T0 := send_ok wr h.st.buf hk.in_ mss hm
  rw [hen] at T0
  have hcl := cuts_length mss m3 16384 q.sent en
  have hL16 : (cuts mss 16384 q.sent en).length ≤ 16384 := by have := hk.in_.s0; omega
  have HPL := Lib.hid hpl
  have HKS := Lib.hid hks
  obtain ⟨all, hall⟩ : ∃ all, cuts mss 16384 q.sent en = all := ⟨_, rfl⟩
  rw [hall] at T0 hL16
  obtain ⟨L, hL⟩ : ∃ L, all.length = L := ⟨_, rfl⟩
  rw [hL] at T0 hL16
  have T := Lib.hid T0
  have HS := Lib.hid h.st
  have HALL := Lib.hid (And.intro hall hL)
  have HEN := Lib.hid (And.intro hen2 hsent)
  have HK := Lib.hid hk
  have hq0 := hk.in_.s0
  clear T0 hks hpl hall hL h hcl hen hen2 hsent hk hlen hw u0 hm
  conv => arg 2; whnf
  go_wp2_with (first
    | (go_at_call 8
       go_loud ((with_reducible refine T.out.mono ?_)
                rintro e w3 ⟨A2, c2, vs, rfl, hsl, hpc, hq3, ho3, hwn⟩
                have HS3 := Lib.hid (HS.out.turn hq3 ho3 (fun hl a ha => HS.out.dat hl a ha))
                have HPC := Lib.hid (And.intro hsl hpc)
                have HWN := Lib.hid hwn
                clear hsl hpc hq3 ho3 hwn)))
  refine wp_loop_nxt (SndJ w pb xb q x first now told mss en A A2 n c i c2 L wr.heap.size all vs) L ?_ ?_
  · refine ⟨0, q.sent, 16384, [], { known := ?_, gg := rfl, jl := rfl, cut := HALL.out.1.symm, fuel := ?_, s0 := Int.le_refl _, s1 := by omega, st := ?_, sl := HPC.out.1, pc := HPC.out.2 }⟩
    · rw [show told + ((0 : Nat) : Int) = told by simp]
      exact ⟨rfl, rfl, rfl, rfl, rfl, rfl, rfl, rfl, rfl, rfl, rfl, rfl, rfl, rfl, rfl⟩
    · have := HEN.out.1; have := HK.out.p3; omega
    · have e : ({ x with nxt := x.una + q.sent } : SentS) = x := by rw [show x.una + q.sent = x.nxt by have := HEN.out.2; omega]
      rw [e]
      exact HS3.out
  · have hxl : xb < wr.heap.size := HS.out.note.lt
    generalize wr.heap.size = hs0' at *
    clear HPC HS3 T HS
    rintro g a0 wr ⟨j, s, f, done, q0, rfl, hjl, hcut, hfuel, hs0, hs1, hst, hsl, hpc⟩
    have hlen2 := HALL.out.2
    have hvl := hpc.length
    rw [List.length_map, hlen2] at hvl
    have hcl2 := congrArg List.length hcut
    rw [List.length_append, hlen2, hjl] at hcl2
    by_cases hlt : j < L
    · have tok : True := trivial
      obtain ⟨fd_, fs_, q_0, q_12, q_14, q_15, q_16, q_19, q_25, q_79, q_80, q_81, q_192, q_193, q_194⟩ := q0
      obtain ⟨ff0, rfl⟩ := frame_open fd_ fs_
      clear fd_ fs_
      rw [show ((List.range 428).map ff0).toArray = #[ff0 0, ff0 1, ff0 2, ff0 3, ff0 4, ff0 5, ff0 6, ff0 7, ff0 8, ff0 9, ff0 10, ff0 11, ff0 12, ff0 13, ff0 14, ff0 15, ff0 16, ff0 17, ff0 18, ff0 19, ff0 20, ff0 21, ff0 22, ff0 23, ff0 24, ff0 25, ff0 26, ff0 27, ff0 28, ff0 29, ff0 30, ff0 31, ff0 32, ff0 33, ff0 34, ff0 35, ff0 36, ff0 37, ff0 38, ff0 39, ff0 40, ff0 41, ff0 42, ff0 43, ff0 44, ff0 45, ff0 46, ff0 47, ff0 48, ff0 49, ff0 50, ff0 51, ff0 52, ff0 53, ff0 54, ff0 55, ff0 56, ff0 57, ff0 58, ff0 59, ff0 60, ff0 61, ff0 62, ff0 63, ff0 64, ff0 65, ff0 66, ff0 67, ff0 68, ff0 69, ff0 70, ff0 71, ff0 72, ff0 73, ff0 74, ff0 75, ff0 76, ff0 77, ff0 78, ff0 79, ff0 80, ff0 81, ff0 82, ff0 83, ff0 84, ff0 85, ff0 86, ff0 87, ff0 88, ff0 89, ff0 90, ff0 91, ff0 92, ff0 93, ff0 94, ff0 95, ff0 96, ff0 97, ff0 98, ff0 99, ff0 100, ff0 101, ff0 102, ff0 103, ff0 104, ff0 105, ff0 106, ff0 107, ff0 108, ff0 109, ff0 110, ff0 111, ff0 112, ff0 113, ff0 114, ff0 115, ff0 116, ff0 117, ff0 118, ff0 119, ff0 120, ff0 121, ff0 122, ff0 123, ff0 124, ff0 125, ff0 126, ff0 127, ff0 128, ff0 129, ff0 130, ff0 131, ff0 132, ff0 133, ff0 134, ff0 135, ff0 136, ff0 137, ff0 138, ff0 139, ff0 140, ff0 141, ff0 142, ff0 143, ff0 144, ff0 145, ff0 146, ff0 147, ff0 148, ff0 149, ff0 150, ff0 151, ff0 152, ff0 153, ff0 154, ff0 155, ff0 156, ff0 157, ff0 158, ff0 159, ff0 160, ff0 161, ff0 162, ff0 163, ff0 164, ff0 165, ff0 166, ff0 167, ff0 168, ff0 169, ff0 170, ff0 171, ff0 172, ff0 173, ff0 174, ff0 175, ff0 176, ff0 177, ff0 178, ff0 179, ff0 180, ff0 181, ff0 182, ff0 183, ff0 184, ff0 185, ff0 186, ff0 187, ff0 188, ff0 189, ff0 190, ff0 191, ff0 192, ff0 193, ff0 194, ff0 195, ff0 196, ff0 197, ff0 198, ff0 199, ff0 200, ff0 201, ff0 202, ff0 203, ff0 204, ff0 205, ff0 206, ff0 207, ff0 208, ff0 209, ff0 210, ff0 211, ff0 212, ff0 213, ff0 214, ff0 215, ff0 216, ff0 217, ff0 218, ff0 219, ff0 220, ff0 221, ff0 222, ff0 223, ff0 224, ff0 225, ff0 226, ff0 227, ff0 228, ff0 229, ff0 230, ff0 231, ff0 232, ff0 233, ff0 234, ff0 235, ff0 236, ff0 237, ff0 238, ff0 239, ff0 240, ff0 241, ff0 242, ff0 243, ff0 244, ff0 245, ff0 246, ff0 247, ff0 248, ff0 249, ff0 250, ff0 251, ff0 252, ff0 253, ff0 254, ff0 255, ff0 256, ff0 257, ff0 258, ff0 259, ff0 260, ff0 261, ff0 262, ff0 263, ff0 264, ff0 265, ff0 266, ff0 267, ff0 268, ff0 269, ff0 270, ff0 271, ff0 272, ff0 273, ff0 274, ff0 275, ff0 276, ff0 277, ff0 278, ff0 279, ff0 280, ff0 281, ff0 282, ff0 283, ff0 284, ff0 285, ff0 286, ff0 287, ff0 288, ff0 289, ff0 290, ff0 291, ff0 292, ff0 293, ff0 294, ff0 295, ff0 296, ff0 297, ff0 298, ff0 299, ff0 300, ff0 301, ff0 302, ff0 303, ff0 304, ff0 305, ff0 306, ff0 307, ff0 308, ff0 309, ff0 310, ff0 311, ff0 312, ff0 313, ff0 314, ff0 315, ff0 316, ff0 317, ff0 318, ff0 319, ff0 320, ff0 321, ff0 322, ff0 323, ff0 324, ff0 325, ff0 326, ff0 327, ff0 328, ff0 329, ff0 330, ff0 331, ff0 332, ff0 333, ff0 334, ff0 335, ff0 336, ff0 337, ff0 338, ff0 339, ff0 340, ff0 341, ff0 342, ff0 343, ff0 344, ff0 345, ff0 346, ff0 347, ff0 348, ff0 349, ff0 350, ff0 351, ff0 352, ff0 353, ff0 354, ff0 355, ff0 356, ff0 357, ff0 358, ff0 359, ff0 360, ff0 361, ff0 362, ff0 363, ff0 364, ff0 365, ff0 366, ff0 367, ff0 368, ff0 369, ff0 370, ff0 371, ff0 372, ff0 373, ff0 374, ff0 375, ff0 376, ff0 377, ff0 378, ff0 379, ff0 380, ff0 381, ff0 382, ff0 383, ff0 384, ff0 385, ff0 386, ff0 387, ff0 388, ff0 389, ff0 390, ff0 391, ff0 392, ff0 393, ff0 394, ff0 395, ff0 396, ff0 397, ff0 398, ff0 399, ff0 400, ff0 401, ff0 402, ff0 403, ff0 404, ff0 405, ff0 406, ff0 407, ff0 408, ff0 409, ff0 410, ff0 411, ff0 412, ff0 413, ff0 414, ff0 415, ff0 416, ff0 417, ff0 418, ff0 419, ff0 420, ff0 421, ff0 422, ff0 423, ff0 424, ff0 425, ff0 426, ff0 427] from rfl]
      rw [frame_get q_0, frame_get q_12, frame_get q_14, frame_get q_15, frame_get q_16, frame_get q_19, frame_get q_25, frame_get q_79, frame_get q_80, frame_get q_81, frame_get q_192, frame_get q_193, frame_get q_194]
      clear q_0 q_12 q_14 q_15 q_16 q_19 q_25 q_79 q_80 q_81 q_192 q_193 q_194
      have hne : ¬ en ≤ s := fun h => by rw [cuts_done _ _ _ _ h] at hcl2; simp at hcl2; omega
      obtain ⟨f, rfl⟩ : ∃ f', f = f' + 1 := ⟨f - 1, by omega⟩
      obtain ⟨tx, hto⟩ : ∃ tx, tx = min (s + mss) en := ⟨_, rfl⟩
      have hcut' : all = (done ++ [(s, tx)]) ++ cuts mss f tx en := by
        rw [hcut, hto, List.append_assoc]; congr 1; show cuts mss (f + 1) s en = _; rw [cuts, if_pos (by omega)]; rfl
      have hget : all[j]? = some (s, tx) := by
        rw [hcut', List.append_assoc, List.getElem?_append_right (by omega), hjl]; simp
      have hj2 : j < (all.map (pieceOf q)).length := by rw [List.length_map, hlen2]; exact hlt
      obtain ⟨hpc1, Ad, cd, hpc2, hpc3⟩ := hpc.get j (by omega) hj2
      have hpe : (all.map (pieceOf q))[j] = pieceOf q (s, tx) := by
        have : (all.map (pieceOf q))[j]? = some (pieceOf q (s, tx)) := by rw [List.getElem?_map, hget]; rfl
        exact Option.some.inj ((List.getElem?_eq_getElem hj2).symm.trans this)
      rw [hpe] at hpc1 hpc2 hpc3
      have hdat : (pieceOf q (s, tx)).2 = bytesL (x.una + s) (tx - s).toNat := by
        have hh := HEN.out.1
        have hd := HK.out.data
        show (q.data.take tx.toNat).drop s.toNat = _
        rw [hd, bytesL_take _ _ _ (by omega), bytesL_drop _ _ _ (by omega), show x.una + (s.toNat : Int) = x.una + s by omega, show tx.toNat - s.toNat = (tx - s).toNat by omega]
      have hsq : IntKind.u32.wrap (first + IntKind.u32.wrap (x.una + s)) = (pieceOf q (s, tx)).1 := by
        have u32_wrap : ∀ n : Int, IntKind.u32.wrap n = n % 4294967296 := fun n => by simp [IntKind.wrap, IntKind.bits, IntKind.signed]
        show _ = (q.una + s) % 4294967296
        rw [u32_wrap, u32_wrap, HK.out.u]; omega
      obtain ⟨ab, ao, rfl, hcell⟩ := hsl (by rw [pcCells_length]; omega)
      have hcs := pcCells_get vs j (by omega)
      have c0 := hcell _ _ hcs.1
      have c1 := hcell _ _ hcs.2
      rw [hpc1] at c0
      rw [hpc2] at c1
      obtain ⟨sq, hsqe⟩ : ∃ sq, (pieceOf q (s, tx)).1 = sq := ⟨_, rfl⟩
      obtain ⟨d, hde⟩ : ∃ d, (pieceOf q (s, tx)).2 = d := ⟨_, rfl⟩
      rw [hsqe] at c0 hsq
      rw [hde] at c1 hpc3 hdat
      have c1' : wr.cell? ⟨ab, ao + j * 2 + 1, none⟩ = some (.slice Ad d.length cd) := c1
      have i0 : (0 : Int) ≤ (j : Int) := by omega
      have i1 : (j : Int) < (L : Int) := by omega
      have hnew := Blk.new wr 42 #[.int .u32 sq, .slice Ad d.length cd]
      have kk : Below wr.heap.size wr (wr.alloc (.cells #[.int .u32 sq, .slice Ad d.length cd] 42)) := bel_alloc _
      have HN := Lib.hid (And.intro hnew (And.intro kk (And.intro (hst.grow kk) (And.intro (hsl.below kk) (And.intro (hpc.below kk) (hpc3.below kk))))))
      have Hlen := Lib.hid hlen2
      have HC := Lib.hid (And.intro hcut' (And.intro hjl hdat))
      have HSQ := Lib.hid hsq
      have HTO := Lib.hid hto
      have Hvl := Lib.hid hvl
      clear hcut hcut' hget hj2 hpc1 hpc2 hpc3 hpe hcell hcs c1 hnew kk hst hsl hpc hsq hdat hde hsqe hto hlen2 hvl hcl2 hjl
      generalize hdl : d.length = dl at *
      have Hdl := Lib.hid hdl
      clear hdl
      go_upto_region 43 with (fail)
      generalize wr.heap.size = pk at *
      generalize hW : wr.alloc (.cells #[.int .u32 sq, .slice Ad dl cd] 42) = W at *
      have HW := Lib.hid hW
      clear hW
      obtain ⟨hnew, kk, hst, hsl, hpc, hpc3⟩ := HN.out
      obtain ⟨g0, g1, g2, g3, g4, g5, g6, g7, g8, g9⟩ := hst.note.cells
      simp only at g0 g1 g2 g3
      have hen3 := HEN.out.1
      have hto := HTO.out
      have hHN := HN
      clear hnew kk hst hsl hpc hpc3 g4 g5 g6 g7 g8 g9 c0 c1'
      go_upto_region 44 with (fail)
      have e28 : min (x.una + s + mss) (min x.fin (x.una + x.window)) = x.una + tx := by omega
      rw [e28]
      have hen5 : s < tx := by omega
      have hen6 : x.una + tx ≤ 1000000 := by omega
      clear e28 hen3 hto
      rename_i K2 hK2 K hK
      refine wp_part (part_told (x := { x with nxt := x.una + s }) (x.una + s) sq d Ad cd HN.out.2.2.1.note (by rw [Hdl.out]; exact HN.out.1) HN.out.2.2.2.2.2 rfl (by rw [HC.out.2.2, show x.una + tx - (x.una + s) = tx - s by omega]) (by omega) (by omega) (by omega) HSQ.out) ?_
      rintro a2 W2 ⟨q2, hb2⟩
      obtain ⟨fd_, fs_, q_0, q_12, q_14, q_15, q_16, q_19, q_25, q_27, q_28, q_79, q_80, q_81, q_192, q_193, q_194, q_233⟩ := q2
      obtain ⟨f2, rfl⟩ := frame_open fd_ fs_
      clear fd_ fs_
      rw [show ((List.range 428).map f2).toArray = #[f2 0, f2 1, f2 2, f2 3, f2 4, f2 5, f2 6, f2 7, f2 8, f2 9, f2 10, f2 11, f2 12, f2 13, f2 14, f2 15, f2 16, f2 17, f2 18, f2 19, f2 20, f2 21, f2 22, f2 23, f2 24, f2 25, f2 26, f2 27, f2 28, f2 29, f2 30, f2 31, f2 32, f2 33, f2 34, f2 35, f2 36, f2 37, f2 38, f2 39, f2 40, f2 41, f2 42, f2 43, f2 44, f2 45, f2 46, f2 47, f2 48, f2 49, f2 50, f2 51, f2 52, f2 53, f2 54, f2 55, f2 56, f2 57, f2 58, f2 59, f2 60, f2 61, f2 62, f2 63, f2 64, f2 65, f2 66, f2 67, f2 68, f2 69, f2 70, f2 71, f2 72, f2 73, f2 74, f2 75, f2 76, f2 77, f2 78, f2 79, f2 80, f2 81, f2 82, f2 83, f2 84, f2 85, f2 86, f2 87, f2 88, f2 89, f2 90, f2 91, f2 92, f2 93, f2 94, f2 95, f2 96, f2 97, f2 98, f2 99, f2 100, f2 101, f2 102, f2 103, f2 104, f2 105, f2 106, f2 107, f2 108, f2 109, f2 110, f2 111, f2 112, f2 113, f2 114, f2 115, f2 116, f2 117, f2 118, f2 119, f2 120, f2 121, f2 122, f2 123, f2 124, f2 125, f2 126, f2 127, f2 128, f2 129, f2 130, f2 131, f2 132, f2 133, f2 134, f2 135, f2 136, f2 137, f2 138, f2 139, f2 140, f2 141, f2 142, f2 143, f2 144, f2 145, f2 146, f2 147, f2 148, f2 149, f2 150, f2 151, f2 152, f2 153, f2 154, f2 155, f2 156, f2 157, f2 158, f2 159, f2 160, f2 161, f2 162, f2 163, f2 164, f2 165, f2 166, f2 167, f2 168, f2 169, f2 170, f2 171, f2 172, f2 173, f2 174, f2 175, f2 176, f2 177, f2 178, f2 179, f2 180, f2 181, f2 182, f2 183, f2 184, f2 185, f2 186, f2 187, f2 188, f2 189, f2 190, f2 191, f2 192, f2 193, f2 194, f2 195, f2 196, f2 197, f2 198, f2 199, f2 200, f2 201, f2 202, f2 203, f2 204, f2 205, f2 206, f2 207, f2 208, f2 209, f2 210, f2 211, f2 212, f2 213, f2 214, f2 215, f2 216, f2 217, f2 218, f2 219, f2 220, f2 221, f2 222, f2 223, f2 224, f2 225, f2 226, f2 227, f2 228, f2 229, f2 230, f2 231, f2 232, f2 233, f2 234, f2 235, f2 236, f2 237, f2 238, f2 239, f2 240, f2 241, f2 242, f2 243, f2 244, f2 245, f2 246, f2 247, f2 248, f2 249, f2 250, f2 251, f2 252, f2 253, f2 254, f2 255, f2 256, f2 257, f2 258, f2 259, f2 260, f2 261, f2 262, f2 263, f2 264, f2 265, f2 266, f2 267, f2 268, f2 269, f2 270, f2 271, f2 272, f2 273, f2 274, f2 275, f2 276, f2 277, f2 278, f2 279, f2 280, f2 281, f2 282, f2 283, f2 284, f2 285, f2 286, f2 287, f2 288, f2 289, f2 290, f2 291, f2 292, f2 293, f2 294, f2 295, f2 296, f2 297, f2 298, f2 299, f2 300, f2 301, f2 302, f2 303, f2 304, f2 305, f2 306, f2 307, f2 308, f2 309, f2 310, f2 311, f2 312, f2 313, f2 314, f2 315, f2 316, f2 317, f2 318, f2 319, f2 320, f2 321, f2 322, f2 323, f2 324, f2 325, f2 326, f2 327, f2 328, f2 329, f2 330, f2 331, f2 332, f2 333, f2 334, f2 335, f2 336, f2 337, f2 338, f2 339, f2 340, f2 341, f2 342, f2 343, f2 344, f2 345, f2 346, f2 347, f2 348, f2 349, f2 350, f2 351, f2 352, f2 353, f2 354, f2 355, f2 356, f2 357, f2 358, f2 359, f2 360, f2 361, f2 362, f2 363, f2 364, f2 365, f2 366, f2 367, f2 368, f2 369, f2 370, f2 371, f2 372, f2 373, f2 374, f2 375, f2 376, f2 377, f2 378, f2 379, f2 380, f2 381, f2 382, f2 383, f2 384, f2 385, f2 386, f2 387, f2 388, f2 389, f2 390, f2 391, f2 392, f2 393, f2 394, f2 395, f2 396, f2 397, f2 398, f2 399, f2 400, f2 401, f2 402, f2 403, f2 404, f2 405, f2 406, f2 407, f2 408, f2 409, f2 410, f2 411, f2 412, f2 413, f2 414, f2 415, f2 416, f2 417, f2 418, f2 419, f2 420, f2 421, f2 422, f2 423, f2 424, f2 425, f2 426, f2 427] from rfl]
      rw [frame_get q_0, frame_get q_12, frame_get q_14, frame_get q_15, frame_get q_16, frame_get q_19, frame_get q_25, frame_get q_27, frame_get q_28, frame_get q_79, frame_get q_80, frame_get q_81, frame_get q_192, frame_get q_193, frame_get q_194, frame_get q_233]
      clear q_0 q_12 q_14 q_15 q_16 q_19 q_25 q_27 q_28 q_79 q_80 q_81 q_192 q_193 q_194 q_233
      refine hK _ _ ?_
      clear hK K
      have hst2 := HN.out.2.2.1.grow hb2
      have k1 := hst2.note.cells.2.1
      simp only at k1
      have kf := Blk.frozen hst2.note 1
      have hn3 : SentAt (W2.setCell ⟨xb, 1, none⟩ (.int .i64 (x.una + tx))) xb { x with nxt := x.una + tx } := Blk.set_ hst2.note 1 _
      have ho3 : Only [xb] W2 (W2.setCell ⟨xb, 1, none⟩ (.int .i64 (x.una + tx))) := (Only.refl _ _).setCell (.inl (by simp)) _
      have HST3 := Lib.hid (hst2.note_ hn3 ho3)
      have HSL3 := Lib.hid (sl_only (HN.out.2.2.2.1.below hb2) ho3 (fun a ha => by obtain rfl := Option.some.inj ha; have := HWN.out _ rfl; have h5 : hs0' ≤ ab := this; simp; omega))
      have HPC3 := Lib.hid ((HN.out.2.2.2.2.1.below hb2).only ho3 (by simpa using hxl))
      clear hst2 hn3 ho3 hb2
      go_wp2_with (fail)
      have hjl := HC.out.2.1
      have hto3 := HTO.out
      refine ⟨L - (j + 1), by omega, j + 1, tx, f, done ++ [(s, tx)], { known := ?_, gg := rfl, jl := (by rw [List.length_append, hjl]; rfl), cut := HC.out.1, fuel := (by omega), s0 := (by omega), s1 := (by omega), st := HST3.out, sl := HSL3.out, pc := HPC3.out }⟩
      rw [show told + ((j + 1 : Nat) : Int) = told + j + 1 by omega, show ((j + 1 : Nat) : Int) = (j : Int) + 1 by omega]
      exact ⟨rfl, rfl, rfl, rfl, rfl, rfl, rfl, rfl, rfl, rfl, rfl, rfl, rfl, rfl, rfl⟩
    · have hjL : j = L := by have : done.length ≤ L := by omega
                             omega
      subst hjL
      have hdone : ¬ s < en := fun h => by
        obtain ⟨f', rfl⟩ : ∃ f', f = f' + 1 := ⟨f - 1, by omega⟩
        unfold cuts at hcl2
        rw [if_pos h] at hcl2
        simp at hcl2
      have hsf : ({ x with nxt := x.una + s } : SentS) = x.send := by
        unfold SentS.send SentS.reach
        have h1 := HEN.out.1
        have h2 := HEN.out.2
        rw [show x.una + s = max x.nxt (min x.fin (x.una + x.window)) by omega]
      have hst' := hst
      obtain ⟨g0, g1, g2, g3, g4, g5, g6, g7, g8, g9⟩ := hst.note.cells
      simp only at g0 g1 g2 g3
      rw [hsf] at hst
      have HST := Lib.hid hst
      have hen3 := HEN.out.1
      have hge : ¬ x.una + s < min x.fin (x.una + x.window) := by omega
      have Hln := HPL.out
      rw [HALL.out.1, hlen2] at Hln
      have HLN := Lib.hid Hln
      clear hen3 hst hst' hsf hsl hpc hcut hvl hlen2 hcl2 g4 g5 g6 g7 g8 g9 Hln
      obtain ⟨fd_, fs_, q_0, q_12, q_14, q_15, q_16, q_19, q_25, q_79, q_80, q_81, q_192, q_193, q_194⟩ := q0
      obtain ⟨ff0, rfl⟩ := frame_open fd_ fs_
      clear fd_ fs_
      rw [show ((List.range 428).map ff0).toArray = #[ff0 0, ff0 1, ff0 2, ff0 3, ff0 4, ff0 5, ff0 6, ff0 7, ff0 8, ff0 9, ff0 10, ff0 11, ff0 12, ff0 13, ff0 14, ff0 15, ff0 16, ff0 17, ff0 18, ff0 19, ff0 20, ff0 21, ff0 22, ff0 23, ff0 24, ff0 25, ff0 26, ff0 27, ff0 28, ff0 29, ff0 30, ff0 31, ff0 32, ff0 33, ff0 34, ff0 35, ff0 36, ff0 37, ff0 38, ff0 39, ff0 40, ff0 41, ff0 42, ff0 43, ff0 44, ff0 45, ff0 46, ff0 47, ff0 48, ff0 49, ff0 50, ff0 51, ff0 52, ff0 53, ff0 54, ff0 55, ff0 56, ff0 57, ff0 58, ff0 59, ff0 60, ff0 61, ff0 62, ff0 63, ff0 64, ff0 65, ff0 66, ff0 67, ff0 68, ff0 69, ff0 70, ff0 71, ff0 72, ff0 73, ff0 74, ff0 75, ff0 76, ff0 77, ff0 78, ff0 79, ff0 80, ff0 81, ff0 82, ff0 83, ff0 84, ff0 85, ff0 86, ff0 87, ff0 88, ff0 89, ff0 90, ff0 91, ff0 92, ff0 93, ff0 94, ff0 95, ff0 96, ff0 97, ff0 98, ff0 99, ff0 100, ff0 101, ff0 102, ff0 103, ff0 104, ff0 105, ff0 106, ff0 107, ff0 108, ff0 109, ff0 110, ff0 111, ff0 112, ff0 113, ff0 114, ff0 115, ff0 116, ff0 117, ff0 118, ff0 119, ff0 120, ff0 121, ff0 122, ff0 123, ff0 124, ff0 125, ff0 126, ff0 127, ff0 128, ff0 129, ff0 130, ff0 131, ff0 132, ff0 133, ff0 134, ff0 135, ff0 136, ff0 137, ff0 138, ff0 139, ff0 140, ff0 141, ff0 142, ff0 143, ff0 144, ff0 145, ff0 146, ff0 147, ff0 148, ff0 149, ff0 150, ff0 151, ff0 152, ff0 153, ff0 154, ff0 155, ff0 156, ff0 157, ff0 158, ff0 159, ff0 160, ff0 161, ff0 162, ff0 163, ff0 164, ff0 165, ff0 166, ff0 167, ff0 168, ff0 169, ff0 170, ff0 171, ff0 172, ff0 173, ff0 174, ff0 175, ff0 176, ff0 177, ff0 178, ff0 179, ff0 180, ff0 181, ff0 182, ff0 183, ff0 184, ff0 185, ff0 186, ff0 187, ff0 188, ff0 189, ff0 190, ff0 191, ff0 192, ff0 193, ff0 194, ff0 195, ff0 196, ff0 197, ff0 198, ff0 199, ff0 200, ff0 201, ff0 202, ff0 203, ff0 204, ff0 205, ff0 206, ff0 207, ff0 208, ff0 209, ff0 210, ff0 211, ff0 212, ff0 213, ff0 214, ff0 215, ff0 216, ff0 217, ff0 218, ff0 219, ff0 220, ff0 221, ff0 222, ff0 223, ff0 224, ff0 225, ff0 226, ff0 227, ff0 228, ff0 229, ff0 230, ff0 231, ff0 232, ff0 233, ff0 234, ff0 235, ff0 236, ff0 237, ff0 238, ff0 239, ff0 240, ff0 241, ff0 242, ff0 243, ff0 244, ff0 245, ff0 246, ff0 247, ff0 248, ff0 249, ff0 250, ff0 251, ff0 252, ff0 253, ff0 254, ff0 255, ff0 256, ff0 257, ff0 258, ff0 259, ff0 260, ff0 261, ff0 262, ff0 263, ff0 264, ff0 265, ff0 266, ff0 267, ff0 268, ff0 269, ff0 270, ff0 271, ff0 272, ff0 273, ff0 274, ff0 275, ff0 276, ff0 277, ff0 278, ff0 279, ff0 280, ff0 281, ff0 282, ff0 283, ff0 284, ff0 285, ff0 286, ff0 287, ff0 288, ff0 289, ff0 290, ff0 291, ff0 292, ff0 293, ff0 294, ff0 295, ff0 296, ff0 297, ff0 298, ff0 299, ff0 300, ff0 301, ff0 302, ff0 303, ff0 304, ff0 305, ff0 306, ff0 307, ff0 308, ff0 309, ff0 310, ff0 311, ff0 312, ff0 313, ff0 314, ff0 315, ff0 316, ff0 317, ff0 318, ff0 319, ff0 320, ff0 321, ff0 322, ff0 323, ff0 324, ff0 325, ff0 326, ff0 327, ff0 328, ff0 329, ff0 330, ff0 331, ff0 332, ff0 333, ff0 334, ff0 335, ff0 336, ff0 337, ff0 338, ff0 339, ff0 340, ff0 341, ff0 342, ff0 343, ff0 344, ff0 345, ff0 346, ff0 347, ff0 348, ff0 349, ff0 350, ff0 351, ff0 352, ff0 353, ff0 354, ff0 355, ff0 356, ff0 357, ff0 358, ff0 359, ff0 360, ff0 361, ff0 362, ff0 363, ff0 364, ff0 365, ff0 366, ff0 367, ff0 368, ff0 369, ff0 370, ff0 371, ff0 372, ff0 373, ff0 374, ff0 375, ff0 376, ff0 377, ff0 378, ff0 379, ff0 380, ff0 381, ff0 382, ff0 383, ff0 384, ff0 385, ff0 386, ff0 387, ff0 388, ff0 389, ff0 390, ff0 391, ff0 392, ff0 393, ff0 394, ff0 395, ff0 396, ff0 397, ff0 398, ff0 399, ff0 400, ff0 401, ff0 402, ff0 403, ff0 404, ff0 405, ff0 406, ff0 407, ff0 408, ff0 409, ff0 410, ff0 411, ff0 412, ff0 413, ff0 414, ff0 415, ff0 416, ff0 417, ff0 418, ff0 419, ff0 420, ff0 421, ff0 422, ff0 423, ff0 424, ff0 425, ff0 426, ff0 427] from rfl]
      rw [frame_get q_0, frame_get q_12, frame_get q_14, frame_get q_15, frame_get q_16, frame_get q_19, frame_get q_25, frame_get q_79, frame_get q_80, frame_get q_81, frame_get q_192, frame_get q_193, frame_get q_194]
      clear q_0 q_12 q_14 q_15 q_16 q_19 q_25 q_79 q_80 q_81 q_192 q_193 q_194
      go_wp2_with (fail)
      rw [← HLN.out]
      exact ⟨⟨rfl, rfl, rfl, rfl, rfl, rfl, rfl, rfl, rfl, rfl⟩, _, HST.out, HKS.out⟩
end
end Go.Proofs.Ytnpmelonkcgpgad

