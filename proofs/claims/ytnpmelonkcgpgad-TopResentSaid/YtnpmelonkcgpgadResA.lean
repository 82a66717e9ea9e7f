/- resent19: what is acknowledged -/
import Derived.Test.YtnpmelonkcgpgadRes0
namespace Go.Proofs.Ytnpmelonkcgpgad
open Go.RowKit
set_option linter.unusedVariables false
set_option linter.unusedSimpArgs false
attribute [local go_sem ↓] Go.wp_at_zero Go.wp_at_succ

section
variable {w wr : World} {pb xb bb c n i : Nat} {A : Option Addr} {q : BufS} {x : SentS} {first told now now0 mss k6 kd mn pl tk : Int} {mayM : Bool}

theorem acked_ok {b : Nat} (w : World) (h : BufAt w b q) (hi : BufIn q) (d win now an : Int) (han : an = (q.una + d) % 4294967296) (d0 : 0 ≤ d) (d1 : d ≤ q.sent) (w0 : 0 ≤ win) (w1 : win ≤ 1073741824) (n0 : 0 ≤ now) (n1 : now ≤ 1099511627776) :
    Calls Try.prog 9 #[.pointer (some ⟨b, 0, none⟩), .int .u32 an, .int .u32 win, .int .u64 now] w fun e w' => ∃ A' c', e = .returned (.tuple #[.int .i64 d, .int .i64 0]) ∧ BufAt w' b (q.acked an d.toNat win now A' c') ∧ Only [b] w w' ∧ (0 < d → ∀ a, A' = some a → ∃ a0, q.A = some a0 ∧ a0.block = a.block) := by
  have s1 := hi.s1
  by_cases h0 : d = 0
  · subst h0
    have := acked_zero w h hi win now w0 w1
    rw [← han] at this
    refine this.mono ?_
    rintro e w' ⟨rfl, h1, h2⟩
    refine ⟨none, 0, rfl, ?_, h2, fun h => by omega⟩
    unfold BufS.acked
    rw [if_neg (by omega)]
    exact h1
  · by_cases h1 : d = q.data.length
    · subst h1
      have := acked_all w h hi win now (by omega) d1 w0 w1 n0 n1
      rw [← han] at this
      refine this.mono ?_
      rintro e w' ⟨A', c', rfl, h1, h2, h3⟩
      exact ⟨A', c', rfl, by simpa using h1, h2, fun _ => h3⟩
    · have := acked_part w h hi d.toNat win now (by omega) (by omega) (by omega) w0 w1 n0 n1
      rw [show ((d.toNat : Nat) : Int) = d by omega, ← han] at this
      refine this.mono ?_
      rintro e w' ⟨A', c', rfl, h1, h2, h3⟩
      exact ⟨A', c', rfl, h1, h2, fun _ => h3⟩

theorem u32_wrap (n : Int) : IntKind.u32.wrap n = n % 4294967296 := by simp [IntKind.wrap, IntKind.bits, IntKind.signed]
theorem tmod50 (pl : Int) : -50 < pl.tmod 50 ∧ pl.tmod 50 < 50 := ⟨Int.lt_tmod_of_pos pl (by omega), Int.tmod_lt_of_pos pl (by omega)⟩

set_option maxRecDepth 100000 in
set_option maxHeartbeats 2000000 in
theorem kind_ack_bad {u1 u2 u3 u4 u5 u6 u7 u8 u9 u10 u11 u13 u17 u21 u22 u23 u24 u25 u26 u27 u28 u29 u30 u31 u32 u33 u34 u35 u36 u37 u38 u39 u40 u41 u42 u43 u44 u45 u46 u47 u48 u49 u50 u51 u52 u53 u54 u55 u56 u57 u58 u59 u60 u61 u62 u63 u64 u65 u66 u67 u68 u69 u70 u71 u72 u73 u74 u75 u76 u77 u78 u82 u83 u84 u85 u86 u87 u88 u89 u90 u91 u92 u93 u94 u95 u96 u97 u98 u99 u100 u101 u102 u103 u104 u105 u106 u107 u108 u109 u111 u112 u113 u114 u115 u116 u117 u118 u119 u120 u121 u122 u123 u124 u125 u126 u127 u128 u129 u130 u131 u132 u133 u134 u135 u136 u137 u138 u139 u140 u141 u142 u143 u144 u145 u146 u147 u148 u149 u150 u151 u152 u153 u154 u155 u156 u157 u158 u159 u160 u161 u162 u163 u164 u165 u166 u167 u168 u169 u170 u171 u172 u173 u174 u175 u176 u177 u178 u179 u180 u181 u182 u183 u184 u185 u186 u187 u188 u189 u190 u191 u192 u193 u194 u195 u196 u197 u198 u199 u200 u201 u202 u203 u204 u205 u206 u207 u208 u209 u210 u211 u212 u213 u214 u215 u216 u217 u218 u219 u220 u221 u222 u223 u224 u225 u226 u227 u228 u229 u230 u231 u232 u233 u234 u235 u236 u237 u238 u239 u240 u241 u242 u243 u244 u245 u246 u247 u248 u249 u250 u251 u252 u253 u254 u255 u256 u257 u258 u259 u260 u261 u262 u263 u264 u265 u266 u267 u268 u269 u270 u271 u272 u273 u274 u275 u276 u277 u278 u279 u280 u281 u282 u283 u284 u285 u286 u287 u288 u289 u290 u291 u292 u293 u294 u295 u296 u297 u298 u299 u300 u301 u302 u303 u304 u305 u306 u307 u308 u309 u310 u311 u312 u313 u314 u315 u316 u317 u318 u319 u320 u321 u322 u323 u324 u325 u326 u327 u328 u329 u330 u331 u332 u333 u334 u335 u336 u337 u338 u339 u340 u341 u342 u343 u344 u345 u346 u347 u348 u349 u350 u351 u352 u353 u354 u355 u356 u357 u358 u359 u360 u361 u362 u363 u364 u365 u366 u367 u368 u369 u370 u371 u372 u373 u374 u375 u376 u377 u378 u379 u380 u381 u382 u383 u384 u385 u386 u387 u388 u389 u390 u391 u392 u393 u394 u395 u396 u397 u398 u399 u400 u401 u402 u403 u404 u405 u406 u407 u408 u409 u410 u411 u412 u413 u414 u415 u416 u417 u418 u419 u420 u421 u422 u423 u424 u425 u426 u427 : Value} (h : Amid w wr pb xb bb q x kd mn pl tk) (hk : Keeps first q x now (i + 1)) (hp : x.fin ≤ i * 16385) (hi : i ≤ 59) (m0 : 0 ≤ mn) (m1 : mn < 256) (pl0 : -32768 ≤ pl) (pl1 : pl ≤ 32767) (hb : ackOf x pl < x.una ∨ x.nxt < ackOf x pl ∨ 1073741824 < winOf mn) :
    Code.wp Try.prog (codeAt (fbody Try.f5) [1,1,1,1,1,1,0,1,0,0,1,1,0,0,1,1,1,1,0,1]) (Exit.then (Out (fun a' => (a'.defers = [] ∧ a'.tmps.size = 428 ∧ a'.tmps[0]? = some (.int .u32 first) ∧ a'.tmps[12]? = some (.pointer (some ⟨pb, 0, none⟩)) ∧ a'.tmps[14]? = some (.pointer (some ⟨xb, 0, none⟩)) ∧ a'.tmps[15]? = some (.int .u64 now) ∧ a'.tmps[16]? = some (.int .i64 told) ∧ a'.tmps[79]? = some (.slice A n c) ∧ a'.tmps[80]? = some (.int .i64 n) ∧ a'.tmps[81]? = some (.int .i64 i))) (fun w' => Did w w' pb xb first now (i + 1) (x.acked (ackOf x pl) (winOf mn) now))) Never) (⟨#[.int .u32 first, u1, u2, u3, u4, u5, u6, u7, u8, u9, u10, u11, .pointer (some ⟨pb, 0, none⟩), u13, .pointer (some ⟨xb, 0, none⟩), .int .u64 now, .int .i64 told, u17, .pointer (some ⟨bb, 0, none⟩), .int .i64 mss, .bool mayM, u21, u22, u23, u24, u25, u26, u27, u28, u29, u30, u31, u32, u33, u34, u35, u36, u37, u38, u39, u40, u41, u42, u43, u44, u45, u46, u47, u48, u49, u50, u51, u52, u53, u54, u55, u56, u57, u58, u59, u60, u61, u62, u63, u64, u65, u66, u67, u68, u69, u70, u71, u72, u73, u74, u75, u76, u77, u78, .slice A n c, .int .i64 n, .int .i64 i, u82, u83, u84, u85, u86, u87, u88, u89, u90, u91, u92, u93, u94, u95, u96, u97, u98, u99, u100, u101, u102, u103, u104, u105, u106, u107, u108, u109, .int .u8 3, u111, u112, u113, u114, u115, u116, u117, u118, u119, u120, u121, u122, u123, u124, u125, u126, u127, u128, u129, u130, u131, u132, u133, u134, u135, u136, u137, u138, u139, u140, u141, u142, u143, u144, u145, u146, u147, u148, u149, u150, u151, u152, u153, u154, u155, u156, u157, u158, u159, u160, u161, u162, u163, u164, u165, u166, u167, u168, u169, u170, u171, u172, u173, u174, u175, u176, u177, u178, u179, u180, u181, u182, u183, u184, u185, u186, u187, u188, u189, u190, u191, u192, u193, u194, u195, u196, u197, u198, u199, u200, u201, u202, u203, u204, u205, u206, u207, u208, u209, u210, u211, u212, u213, u214, u215, u216, u217, u218, u219, u220, u221, u222, u223, u224, u225, u226, u227, u228, u229, u230, u231, u232, u233, u234, u235, u236, u237, u238, u239, u240, u241, u242, u243, u244, u245, u246, u247, u248, u249, u250, u251, u252, u253, u254, u255, u256, u257, u258, u259, u260, u261, u262, u263, u264, u265, u266, u267, u268, u269, u270, u271, u272, u273, u274, u275, u276, u277, u278, u279, u280, u281, u282, u283, u284, u285, u286, u287, u288, u289, u290, u291, u292, u293, u294, u295, u296, u297, u298, u299, u300, u301, u302, u303, u304, u305, u306, u307, u308, u309, u310, u311, u312, u313, u314, u315, u316, u317, u318, u319, u320, u321, u322, u323, u324, u325, u326, u327, u328, u329, u330, u331, u332, u333, u334, u335, u336, u337, u338, u339, u340, u341, u342, u343, u344, u345, u346, u347, u348, u349, u350, u351, u352, u353, u354, u355, u356, u357, u358, u359, u360, u361, u362, u363, u364, u365, u366, u367, u368, u369, u370, u371, u372, u373, u374, u375, u376, u377, u378, u379, u380, u381, u382, u383, u384, u385, u386, u387, u388, u389, u390, u391, u392, u393, u394, u395, u396, u397, u398, u399, u400, u401, u402, u403, u404, u405, u406, u407, u408, u409, u410, u411, u412, u413, u414, u415, u416, u417, u418, u419, u420, u421, u422, u423, u424, u425, u426, u427], []⟩ : Act) wr := by
  have hfin : Hid (x.acked (ackOf x pl) (winOf mn) now = x) := Lib.hid (by unfold SentS.acked; rw [if_pos hb])
  have e1' : wr.cell? ⟨bb, 1, none⟩ = some (.int .u8 mn) := h.act.cell 1
  have e2' : wr.cell? ⟨bb, 2, none⟩ = some (.int .i16 pl) := h.act.cell 2
  obtain ⟨d0, d1, d2, d3, d4, d5, d6, d7, d8, d9⟩ := h.st.note.cells
  have p0 := hk.p0
  have p1 := hk.p1
  have p2 := hk.p2
  have f0 := hk.f0
  have f1 := hk.f1
  have ⟨t0, t1⟩ := tmod50 pl
  have hu := hk.u
  have hs := hk.sent
  unfold ackOf at hb
  obtain ⟨t, ht⟩ : ∃ t, pl.tmod 50 = t := ⟨_, rfl⟩
  have Ht := Lib.hid ht
  have wp : IntKind.i64.wrap pl = pl := IntWalk.i64_in _ (by omega)
  have wm : IntKind.i64.wrap mn = mn := IntWalk.i64_in _ (by omega)
  have wt : IntKind.i64.wrap (x.una + t) = x.una + t := IntWalk.i64_in _ (by have := hk.p4; omega)
  have wt2 : IntKind.i64.wrap t = t := IntWalk.i64_in _ (by omega)
  rw [ht] at hb t0 t1
  obtain ⟨an, han⟩ : ∃ an, an = (q.una + t) % 4294967296 := ⟨_, rfl⟩
  have ean : IntKind.u32.wrap (first + IntKind.u32.wrap (x.una + t)) = an := by rw [u32_wrap, u32_wrap, han, hu]; omega
  have ean2 : (first + (x.una + t)) % 4294967296 = an := by rw [han, hu]; omega
  have hwn : 0 ≤ winOf mn ∧ winOf mn ≤ 1073741825 := by unfold winOf; split <;> omega
  have B := Lib.hid (fun wr (h : BufAt wr pb q) => acked_bad wr h hk.in_ t (winOf mn) now (by omega) (by omega) (by omega))
  have HK := Lib.hid hk
  have HS := Lib.hid h.st
  have Han := Lib.hid han
  rw [← han] at B
  clear h hk han d4 d5 d6 d7 d8 d9 hu hs d2 d3
  by_cases hm : mn = 255
  · subst hm
    rw [show winOf 255 = 1073741825 from rfl] at B hb
    clear hwn
    have hb' : x.una + t < x.una ∨ ¬ x.una + t < x.una := by omega
    rcases hb' with hb1 | hb1
    · clear hb
      conv => arg 2; whnf
      go_wp2_with (fail)
      refine wp_still_tail 11 (by kernel_rfl) (by kernel_rfl) ?_
      simp only [List.take_succ_cons, List.take_zero, List.drop_succ_cons, List.drop_zero]
      repeat still_step
      refine wpStill_nil ?_
      go_wp2_with (first | (go_at_call 9; go_loud ((with_reducible refine (B.out _ HS.out.buf.drew).mono ?_); rintro e w3 ⟨rfl, rfl⟩)))
      refine ⟨⟨rfl, rfl, rfl, rfl, rfl, rfl, rfl, rfl, rfl, rfl⟩, ?_⟩
      rw [hfin.out]
      exact ⟨_, HS.out.drew, HK.out⟩
    · by_cases hb2 : x.nxt < x.una + t
      all_goals
        clear hb
        conv => arg 2; whnf
        go_wp2_with (fail)
        refine wp_still_tail 11 (by kernel_rfl) (by kernel_rfl) ?_
        simp only [List.take_succ_cons, List.take_zero, List.drop_succ_cons, List.drop_zero]
        repeat still_step
        refine wpStill_nil ?_
        go_wp2_with (first | (go_at_call 9; go_loud ((with_reducible refine (B.out _ HS.out.buf.drew).mono ?_); rintro e w3 ⟨rfl, rfl⟩)))
        refine ⟨⟨rfl, rfl, rfl, rfl, rfl, rfl, rfl, rfl, rfl, rfl⟩, ?_⟩
        rw [hfin.out]
        exact ⟨_, HS.out.drew, HK.out⟩
  · have hm' : (mn == 255) = false := by simpa using hm
    have e9 : winOf mn = mn := by unfold winOf; rw [if_neg hm]
    rw [e9] at B hb
    have hfin2 : Hid (x.acked (ackOf x pl) (winOf mn) now = x) := hfin
    clear hwn hm e9
    have hb' : x.una + t < x.una ∨ (¬ x.una + t < x.una ∧ x.nxt < x.una + t) := by omega
    rcases hb' with hb1 | ⟨hb1, hb2⟩
    all_goals
      clear hb
      conv => arg 2; whnf
      go_wp2_with (fail)
      refine wp_still_tail 11 (by kernel_rfl) (by kernel_rfl) ?_
      simp only [List.take_succ_cons, List.take_zero, List.drop_succ_cons, List.drop_zero]
      repeat still_step
      refine wpStill_nil ?_
      go_wp2_with (first | (go_at_call 9; go_loud ((with_reducible refine (B.out _ HS.out.buf.drew).mono ?_); rintro e w3 ⟨rfl, rfl⟩)))
      refine ⟨⟨rfl, rfl, rfl, rfl, rfl, rfl, rfl, rfl, rfl, rfl⟩, ?_⟩
      rw [hfin2.out]
      exact ⟨_, HS.out.drew, HK.out⟩

set_option maxRecDepth 100000 in
set_option maxHeartbeats 2000000 in
theorem kind_ack_ok {u1 u2 u3 u4 u5 u6 u7 u8 u9 u10 u11 u13 u17 u21 u22 u23 u24 u25 u26 u27 u28 u29 u30 u31 u32 u33 u34 u35 u36 u37 u38 u39 u40 u41 u42 u43 u44 u45 u46 u47 u48 u49 u50 u51 u52 u53 u54 u55 u56 u57 u58 u59 u60 u61 u62 u63 u64 u65 u66 u67 u68 u69 u70 u71 u72 u73 u74 u75 u76 u77 u78 u82 u83 u84 u85 u86 u87 u88 u89 u90 u91 u92 u93 u94 u95 u96 u97 u98 u99 u100 u101 u102 u103 u104 u105 u106 u107 u108 u109 u111 u112 u113 u114 u115 u116 u117 u118 u119 u120 u121 u122 u123 u124 u125 u126 u127 u128 u129 u130 u131 u132 u133 u134 u135 u136 u137 u138 u139 u140 u141 u142 u143 u144 u145 u146 u147 u148 u149 u150 u151 u152 u153 u154 u155 u156 u157 u158 u159 u160 u161 u162 u163 u164 u165 u166 u167 u168 u169 u170 u171 u172 u173 u174 u175 u176 u177 u178 u179 u180 u181 u182 u183 u184 u185 u186 u187 u188 u189 u190 u191 u192 u193 u194 u195 u196 u197 u198 u199 u200 u201 u202 u203 u204 u205 u206 u207 u208 u209 u210 u211 u212 u213 u214 u215 u216 u217 u218 u219 u220 u221 u222 u223 u224 u225 u226 u227 u228 u229 u230 u231 u232 u233 u234 u235 u236 u237 u238 u239 u240 u241 u242 u243 u244 u245 u246 u247 u248 u249 u250 u251 u252 u253 u254 u255 u256 u257 u258 u259 u260 u261 u262 u263 u264 u265 u266 u267 u268 u269 u270 u271 u272 u273 u274 u275 u276 u277 u278 u279 u280 u281 u282 u283 u284 u285 u286 u287 u288 u289 u290 u291 u292 u293 u294 u295 u296 u297 u298 u299 u300 u301 u302 u303 u304 u305 u306 u307 u308 u309 u310 u311 u312 u313 u314 u315 u316 u317 u318 u319 u320 u321 u322 u323 u324 u325 u326 u327 u328 u329 u330 u331 u332 u333 u334 u335 u336 u337 u338 u339 u340 u341 u342 u343 u344 u345 u346 u347 u348 u349 u350 u351 u352 u353 u354 u355 u356 u357 u358 u359 u360 u361 u362 u363 u364 u365 u366 u367 u368 u369 u370 u371 u372 u373 u374 u375 u376 u377 u378 u379 u380 u381 u382 u383 u384 u385 u386 u387 u388 u389 u390 u391 u392 u393 u394 u395 u396 u397 u398 u399 u400 u401 u402 u403 u404 u405 u406 u407 u408 u409 u410 u411 u412 u413 u414 u415 u416 u417 u418 u419 u420 u421 u422 u423 u424 u425 u426 u427 : Value} (h : Amid w wr pb xb bb q x kd mn pl tk) (hk : Keeps first q x now (i + 1)) (hp : x.fin ≤ i * 16385) (hi : i ≤ 59) (m0 : 0 ≤ mn) (m1 : mn < 256) (pl0 : -32768 ≤ pl) (pl1 : pl ≤ 32767) (hb : ¬ (ackOf x pl < x.una ∨ x.nxt < ackOf x pl ∨ 1073741824 < winOf mn)) :
    Code.wp Try.prog (codeAt (fbody Try.f5) [1,1,1,1,1,1,0,1,0,0,1,1,0,0,1,1,1,1,0,1]) (Exit.then (Out (fun a' => (a'.defers = [] ∧ a'.tmps.size = 428 ∧ a'.tmps[0]? = some (.int .u32 first) ∧ a'.tmps[12]? = some (.pointer (some ⟨pb, 0, none⟩)) ∧ a'.tmps[14]? = some (.pointer (some ⟨xb, 0, none⟩)) ∧ a'.tmps[15]? = some (.int .u64 now) ∧ a'.tmps[16]? = some (.int .i64 told) ∧ a'.tmps[79]? = some (.slice A n c) ∧ a'.tmps[80]? = some (.int .i64 n) ∧ a'.tmps[81]? = some (.int .i64 i))) (fun w' => Did w w' pb xb first now (i + 1) (x.acked (ackOf x pl) (winOf mn) now))) Never) (⟨#[.int .u32 first, u1, u2, u3, u4, u5, u6, u7, u8, u9, u10, u11, .pointer (some ⟨pb, 0, none⟩), u13, .pointer (some ⟨xb, 0, none⟩), .int .u64 now, .int .i64 told, u17, .pointer (some ⟨bb, 0, none⟩), .int .i64 mss, .bool mayM, u21, u22, u23, u24, u25, u26, u27, u28, u29, u30, u31, u32, u33, u34, u35, u36, u37, u38, u39, u40, u41, u42, u43, u44, u45, u46, u47, u48, u49, u50, u51, u52, u53, u54, u55, u56, u57, u58, u59, u60, u61, u62, u63, u64, u65, u66, u67, u68, u69, u70, u71, u72, u73, u74, u75, u76, u77, u78, .slice A n c, .int .i64 n, .int .i64 i, u82, u83, u84, u85, u86, u87, u88, u89, u90, u91, u92, u93, u94, u95, u96, u97, u98, u99, u100, u101, u102, u103, u104, u105, u106, u107, u108, u109, .int .u8 3, u111, u112, u113, u114, u115, u116, u117, u118, u119, u120, u121, u122, u123, u124, u125, u126, u127, u128, u129, u130, u131, u132, u133, u134, u135, u136, u137, u138, u139, u140, u141, u142, u143, u144, u145, u146, u147, u148, u149, u150, u151, u152, u153, u154, u155, u156, u157, u158, u159, u160, u161, u162, u163, u164, u165, u166, u167, u168, u169, u170, u171, u172, u173, u174, u175, u176, u177, u178, u179, u180, u181, u182, u183, u184, u185, u186, u187, u188, u189, u190, u191, u192, u193, u194, u195, u196, u197, u198, u199, u200, u201, u202, u203, u204, u205, u206, u207, u208, u209, u210, u211, u212, u213, u214, u215, u216, u217, u218, u219, u220, u221, u222, u223, u224, u225, u226, u227, u228, u229, u230, u231, u232, u233, u234, u235, u236, u237, u238, u239, u240, u241, u242, u243, u244, u245, u246, u247, u248, u249, u250, u251, u252, u253, u254, u255, u256, u257, u258, u259, u260, u261, u262, u263, u264, u265, u266, u267, u268, u269, u270, u271, u272, u273, u274, u275, u276, u277, u278, u279, u280, u281, u282, u283, u284, u285, u286, u287, u288, u289, u290, u291, u292, u293, u294, u295, u296, u297, u298, u299, u300, u301, u302, u303, u304, u305, u306, u307, u308, u309, u310, u311, u312, u313, u314, u315, u316, u317, u318, u319, u320, u321, u322, u323, u324, u325, u326, u327, u328, u329, u330, u331, u332, u333, u334, u335, u336, u337, u338, u339, u340, u341, u342, u343, u344, u345, u346, u347, u348, u349, u350, u351, u352, u353, u354, u355, u356, u357, u358, u359, u360, u361, u362, u363, u364, u365, u366, u367, u368, u369, u370, u371, u372, u373, u374, u375, u376, u377, u378, u379, u380, u381, u382, u383, u384, u385, u386, u387, u388, u389, u390, u391, u392, u393, u394, u395, u396, u397, u398, u399, u400, u401, u402, u403, u404, u405, u406, u407, u408, u409, u410, u411, u412, u413, u414, u415, u416, u417, u418, u419, u420, u421, u422, u423, u424, u425, u426, u427], []⟩ : Act) wr := by
  have hm : ¬ mn = 255 := by rintro rfl; exact hb (.inr (.inr (by unfold winOf; omega)))
  have hw : winOf mn = mn := by unfold winOf; rw [if_neg hm]
  have hm' : (mn == 255) = false := by simpa using hm
  rw [hw] at hb ⊢
  have n0 := hk.n0
  have n1 := hk.n1
  have hka0 := fun A c => hk.acked (by omega) (ackOf x pl) mn hb m0 A c
  have e1' : wr.cell? ⟨bb, 1, none⟩ = some (.int .u8 mn) := h.act.cell 1
  have e2' : wr.cell? ⟨bb, 2, none⟩ = some (.int .i16 pl) := h.act.cell 2
  obtain ⟨d0, d1, d2, d3, d4, d5, d6, d7, d8, d9⟩ := h.st.note.cells
  have gf0 := Blk.frozen h.st.note 0
  have gf3 := Blk.frozen h.st.note 3
  have p0 := hk.p0
  have p1 := hk.p1
  have p2 := hk.p2
  have f0 := hk.f0
  have f1 := hk.f1
  have r1 := hk.r1
  have r00 : 0 ≤ x.rto := by have := hk.r0; omega
  have n11 : now ≤ 1099511627776 := by omega
  have ⟨t0, t1⟩ := tmod50 pl
  have hu := hk.u
  have hs := hk.sent
  have hack : ackOf x pl = x.una + pl.tmod 50 := rfl
  rw [hack] at hb hka0 ⊢
  obtain ⟨t, ht⟩ : ∃ t, pl.tmod 50 = t := ⟨_, rfl⟩
  have Ht := Lib.hid ht
  have wp : IntKind.i64.wrap pl = pl := IntWalk.i64_in _ (by omega)
  have wm : IntKind.i64.wrap mn = mn := IntWalk.i64_in _ (by omega)
  have wt : IntKind.i64.wrap (x.una + t) = x.una + t := IntWalk.i64_in _ (by have := hk.p4; omega)
  have wt2 : IntKind.i64.wrap t = t := IntWalk.i64_in _ (by omega)
  rw [ht] at hb t0 t1 hka0
  obtain ⟨an, han⟩ : ∃ an, an = (q.una + t) % 4294967296 := ⟨_, rfl⟩
  have ean : IntKind.u32.wrap (first + IntKind.u32.wrap (x.una + t)) = an := by rw [u32_wrap, u32_wrap, han, hu]; omega
  have ean2 : (first + (x.una + t)) % 4294967296 = an := by rw [han, hu]; omega
  rw [ean2] at hka0
  rw [show x.una + t - x.una = t by omega] at hka0
  have hka := Lib.hid hka0
  have O := Lib.hid (fun wr (h : BufAt wr pb q) => acked_ok wr h hk.in_ t mn now an han (by omega) (by omega) m0 (by omega) n0 n11)
  have HK := Lib.hid hk
  have HS := Lib.hid h.st
  have Han := Lib.hid han
  have hb1 : 0 ≤ t := by omega
  have hb2 : x.una + t ≤ x.nxt := by omega
  have wr1 : IntKind.i64.wrap (x.una + t - x.una) = t := by rw [show x.una + t - x.una = t by omega]; exact IntWalk.i64_in _ (by omega)
  have hlen := hk.len
  clear h hk han d4 d5 d6 d7 d8 d9 hu hb hw hm hka0
  by_cases hz : 0 < t
  · have hfin : Hid (x.acked (x.una + t) mn now = ({ x with una := x.una + t, window := mn } : SentS).anew now) := Lib.hid (by unfold SentS.acked; rw [if_neg (by omega), if_pos (by omega)])
    conv => arg 2; whnf
    go_wp2_with (fail)
    refine wp_still_tail 11 (by kernel_rfl) (by kernel_rfl) ?_
    simp only [List.take_succ_cons, List.take_zero, List.drop_succ_cons, List.drop_zero]
    repeat still_step
    refine wpStill_nil ?_
    go_wp2_with (first
      | (go_at_call 9
         go_loud ((with_reducible refine (O.out _ HS.out.buf.drew).mono ?_)
                  rintro e w3 ⟨A', c', rfl, hq3, ho3, hA3⟩
                  have hst3 := HS.out.drew.turn hq3 ho3 (fun hl a ha => by
                    unfold BufS.acked at hl ha
                    rw [if_pos (by omega)] at hl ha
                    obtain ⟨a0, h1, h2⟩ := hA3 hz a ha
                    rw [← h2]
                    simp only [List.length_drop] at hl
                    exact HS.out.dat (by omega) a0 h1)
                  obtain ⟨g0, g1, g2, g3, g4, g5, g6, g7, g8, g9⟩ := hst3.note.cells
                  have gf := Blk.frozen hst3.note 0
                  have gf' := Blk.frozen hst3.note 3
                  have hn4 : SentAt ((w3.setCell ⟨xb, 0, none⟩ (.int .i64 (x.una + t))).setCell ⟨xb, 3, none⟩ (.int .i64 mn)) xb { x with una := x.una + t, window := mn } := Blk.set_ (Blk.set_ hst3.note 0 _) 3 _
                  have ho4 : Only [xb] w3 ((w3.setCell ⟨xb, 0, none⟩ (.int .i64 (x.una + t))).setCell ⟨xb, 3, none⟩ (.int .i64 mn)) := ((Only.refl _ _).setCell (.inl (by simp)) _).setCell (.inl (by simp)) _
                  have HS4 := Lib.hid (hst3.note_ hn4 ho4)
                  clear hq3 ho3 hA3 hst3 g4 g5 g6 g7 g8 g9 hn4 ho4))
      | (go_at_call 12
         go_loud (have hn5 := HS4.out.note
                  (with_reducible refine (sentanew_any _ now hn5 r00 r1 n0 n11).mono ?_)
                  clear hn5
                  rintro e w5 ⟨rfl, hn6, ho6⟩)))
    refine ⟨⟨rfl, rfl, rfl, rfl, rfl, rfl, rfl, rfl, rfl, rfl⟩, ?_⟩
    have hkx := hka.out A' c'
    rw [Ht.out]
    rw [hfin.out] at hkx ⊢
    exact ⟨_, HS4.out.note_ hn6 ho6, hkx⟩
  · have hfin : Hid (x.acked (x.una + t) mn now = { x with una := x.una + t, window := mn }) := Lib.hid (by unfold SentS.acked; rw [if_neg (by omega), if_neg (by omega)])
    have hz0 : t ≤ 0 := by omega
    conv => arg 2; whnf
    go_wp2_with (fail)
    refine wp_still_tail 11 (by kernel_rfl) (by kernel_rfl) ?_
    simp only [List.take_succ_cons, List.take_zero, List.drop_succ_cons, List.drop_zero]
    repeat still_step
    refine wpStill_nil ?_
    go_wp2_with (first
      | (go_at_call 9
         go_loud ((with_reducible refine (O.out _ HS.out.buf.drew).mono ?_)
                  rintro e w3 ⟨A', c', rfl, hq3, ho3, hA3⟩
                  have hst3 := HS.out.drew.turn hq3 ho3 (fun hl a ha => by
                    unfold BufS.acked at hl ha
                    rw [if_neg (by omega)] at hl ha
                    exact HS.out.dat hl a ha)
                  obtain ⟨g0, g1, g2, g3, g4, g5, g6, g7, g8, g9⟩ := hst3.note.cells
                  have gf := Blk.frozen hst3.note 0
                  have gf' := Blk.frozen hst3.note 3
                  have hn4 : SentAt ((w3.setCell ⟨xb, 0, none⟩ (.int .i64 (x.una + t))).setCell ⟨xb, 3, none⟩ (.int .i64 mn)) xb { x with una := x.una + t, window := mn } := Blk.set_ (Blk.set_ hst3.note 0 _) 3 _
                  have ho4 : Only [xb] w3 ((w3.setCell ⟨xb, 0, none⟩ (.int .i64 (x.una + t))).setCell ⟨xb, 3, none⟩ (.int .i64 mn)) := ((Only.refl _ _).setCell (.inl (by simp)) _).setCell (.inl (by simp)) _
                  have HS4 := Lib.hid (hst3.note_ hn4 ho4)
                  clear hq3 ho3 hA3 hst3 g4 g5 g6 g7 g8 g9 hn4 ho4)))
    refine ⟨⟨rfl, rfl, rfl, rfl, rfl, rfl, rfl, rfl, rfl, rfl⟩, ?_⟩
    have hkx := hka.out A' c'
    rw [Ht.out]
    rw [hfin.out] at hkx ⊢
    exact ⟨_, HS4.out, hkx⟩
end
end Go.Proofs.Ytnpmelonkcgpgad

