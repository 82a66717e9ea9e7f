/- resent19: a piece that was sent is held against the stream -/
import Derived.Test.YtnpmelonkcgpgadResW
namespace Go.Proofs.Ytnpmelonkcgpgad
open Go.RowKit
set_option linter.unusedVariables false
set_option linter.unusedSimpArgs false
attribute [local go_sem ↓] Go.wp_at_zero Go.wp_at_succ

section
variable {w wr : World} {pb xb bb c n i c2 L j pk : Nat} {A A2 : Option Addr} {q : BufS} {x : SentS} {tx first told now now0 mss k6 kd mn pl tk : Int} {mayM : Bool}

set_option maxRecDepth 100000 in
set_option maxHeartbeats 4000000 in
theorem part_told {u1 u2 u3 u4 u5 u6 u7 u8 u9 u10 u11 u13 u17 u18 u20 u21 u22 u23 u24 u26 u29 u30 u31 u32 u33 u34 u35 u36 u37 u38 u39 u40 u41 u42 u43 u44 u45 u46 u47 u48 u49 u50 u51 u52 u53 u54 u55 u56 u57 u58 u59 u60 u61 u62 u63 u64 u65 u66 u67 u68 u69 u70 u71 u72 u73 u74 u75 u76 u77 u78 u82 u83 u84 u85 u86 u87 u88 u89 u90 u91 u92 u93 u94 u95 u96 u97 u98 u99 u100 u101 u102 u103 u104 u105 u106 u107 u108 u109 u110 u111 u112 u113 u114 u115 u116 u117 u118 u119 u120 u121 u122 u123 u124 u125 u126 u127 u128 u129 u130 u131 u132 u133 u134 u135 u136 u137 u138 u139 u140 u141 u142 u143 u144 u145 u146 u147 u148 u149 u150 u151 u152 u153 u154 u155 u156 u157 u158 u159 u160 u161 u162 u163 u164 u165 u166 u167 u168 u169 u170 u171 u172 u173 u174 u175 u176 u177 u178 u179 u180 u181 u182 u183 u184 u185 u186 u187 u188 u189 u190 u191 u195 u196 u197 u198 u199 u200 u201 u202 u203 u204 u205 u206 u207 u208 u209 u210 u211 u212 u213 u214 u215 u216 u217 u218 u219 u220 u221 u222 u223 u224 u225 u226 u227 u228 u229 u230 u231 u232 u233 u234 u235 u236 u237 u238 u239 u240 u241 u242 u243 u244 u245 u246 u247 u248 u249 u250 u251 u252 u253 u254 u255 u256 u257 u258 u259 u260 u261 u262 u263 u264 u265 u266 u267 u268 u269 u270 u271 u272 u273 u274 u275 u276 u277 u278 u279 u280 u281 u282 u283 u284 u285 u286 u287 u288 u289 u290 u291 u292 u293 u294 u295 u296 u297 u298 u299 u300 u301 u302 u303 u304 u305 u306 u307 u308 u309 u310 u311 u312 u313 u314 u315 u316 u317 u318 u319 u320 u321 u322 u323 u324 u325 u326 u327 u328 u329 u330 u331 u332 u333 u334 u335 u336 u337 u338 u339 u340 u341 u342 u343 u344 u345 u346 u347 u348 u349 u350 u351 u352 u353 u354 u355 u356 u357 u358 u359 u360 u361 u362 u363 u364 u365 u366 u367 u368 u369 u370 u371 u372 u373 u374 u375 u376 u377 u378 u379 u380 u381 u382 u383 u384 u385 u386 u387 u388 u389 u390 u391 u392 u393 u394 u395 u396 u397 u398 u399 u400 u401 u402 u403 u404 u405 u406 u407 u408 u409 u410 u411 u412 u413 u414 u415 u416 u417 u418 u419 u420 u421 u422 u423 u424 u425 u426 u427 : Value} (nx sq : Int) (d : List UInt8) (Ad : Option Addr) (cd : Nat) (hx : SentAt wr xb x) (hpk : Blk wr pk 42 #[.int .u32 sq, .slice Ad d.length cd]) (hsl : Sl wr Ad (bs d)) (hnx : x.nxt = nx) (hd : d = bytesL nx (tx - nx).toNat)
    (h0 : 0 ≤ nx) (h1 : nx < tx) (h2 : tx ≤ 1000000) (hsq : IntKind.u32.wrap (first + IntKind.u32.wrap nx) = sq) :
    Code.wp Try.prog (codeAt (fbody Try.f5) [1,1,1,1,1,1,0,1,0,0,1,1,0,0,1,1,1,1,0,1,0,1,1,1,0,1,1,0,1,0,0,1,1,0,0,1,1,0,0]) (Exit.then (Out (fun a' => (a'.defers = [] ∧ a'.tmps.size = 428 ∧ a'.tmps[0]? = some (.int .u32 first) ∧ a'.tmps[12]? = some (.pointer (some ⟨pb, 0, none⟩)) ∧ a'.tmps[14]? = some (.pointer (some ⟨xb, 0, none⟩)) ∧ a'.tmps[15]? = some (.int .u64 now) ∧ a'.tmps[16]? = some (.int .i64 told) ∧ a'.tmps[19]? = some (.int .i64 mss) ∧ a'.tmps[25]? = some (.int .i64 0) ∧ a'.tmps[27]? = some (.pointer (some ⟨pk, 0, none⟩)) ∧ a'.tmps[28]? = some (.int .i64 tx) ∧ a'.tmps[79]? = some (.slice A n c) ∧ a'.tmps[80]? = some (.int .i64 n) ∧ a'.tmps[81]? = some (.int .i64 i) ∧ a'.tmps[192]? = some (.slice A2 L c2) ∧ a'.tmps[193]? = some (.int .i64 L) ∧ a'.tmps[194]? = some (.int .i64 j) ∧ a'.tmps[233]? = some (.bool false))) (fun w' => Below wr.heap.size wr w')) Never) (⟨#[.int .u32 first, u1, u2, u3, u4, u5, u6, u7, u8, u9, u10, u11, .pointer (some ⟨pb, 0, none⟩), u13, .pointer (some ⟨xb, 0, none⟩), .int .u64 now, .int .i64 told, u17, u18, .int .i64 mss, u20, u21, u22, u23, u24, .int .i64 0, u26, .pointer (some ⟨pk, 0, none⟩), .int .i64 tx, u29, u30, u31, u32, u33, u34, u35, u36, u37, u38, u39, u40, u41, u42, u43, u44, u45, u46, u47, u48, u49, u50, u51, u52, u53, u54, u55, u56, u57, u58, u59, u60, u61, u62, u63, u64, u65, u66, u67, u68, u69, u70, u71, u72, u73, u74, u75, u76, u77, u78, .slice A n c, .int .i64 n, .int .i64 i, u82, u83, u84, u85, u86, u87, u88, u89, u90, u91, u92, u93, u94, u95, u96, u97, u98, u99, u100, u101, u102, u103, u104, u105, u106, u107, u108, u109, u110, u111, u112, u113, u114, u115, u116, u117, u118, u119, u120, u121, u122, u123, u124, u125, u126, u127, u128, u129, u130, u131, u132, u133, u134, u135, u136, u137, u138, u139, u140, u141, u142, u143, u144, u145, u146, u147, u148, u149, u150, u151, u152, u153, u154, u155, u156, u157, u158, u159, u160, u161, u162, u163, u164, u165, u166, u167, u168, u169, u170, u171, u172, u173, u174, u175, u176, u177, u178, u179, u180, u181, u182, u183, u184, u185, u186, u187, u188, u189, u190, u191, .slice A2 L c2, .int .i64 L, .int .i64 j, u195, u196, u197, u198, u199, u200, u201, u202, u203, u204, u205, u206, u207, u208, u209, u210, u211, u212, u213, u214, u215, u216, u217, u218, u219, u220, u221, u222, u223, u224, u225, u226, u227, u228, u229, u230, u231, u232, u233, u234, u235, u236, u237, u238, u239, u240, u241, u242, u243, u244, u245, u246, u247, u248, u249, u250, u251, u252, u253, u254, u255, u256, u257, u258, u259, u260, u261, u262, u263, u264, u265, u266, u267, u268, u269, u270, u271, u272, u273, u274, u275, u276, u277, u278, u279, u280, u281, u282, u283, u284, u285, u286, u287, u288, u289, u290, u291, u292, u293, u294, u295, u296, u297, u298, u299, u300, u301, u302, u303, u304, u305, u306, u307, u308, u309, u310, u311, u312, u313, u314, u315, u316, u317, u318, u319, u320, u321, u322, u323, u324, u325, u326, u327, u328, u329, u330, u331, u332, u333, u334, u335, u336, u337, u338, u339, u340, u341, u342, u343, u344, u345, u346, u347, u348, u349, u350, u351, u352, u353, u354, u355, u356, u357, u358, u359, u360, u361, u362, u363, u364, u365, u366, u367, u368, u369, u370, u371, u372, u373, u374, u375, u376, u377, u378, u379, u380, u381, u382, u383, u384, u385, u386, u387, u388, u389, u390, u391, u392, u393, u394, u395, u396, u397, u398, u399, u400, u401, u402, u403, u404, u405, u406, u407, u408, u409, u410, u411, u412, u413, u414, u415, u416, u417, u418, u419, u420, u421, u422, u423, u424, u425, u426, u427], []⟩ : Act) wr := by
  have d1 := hx.cells.2.1
  rw [hnx] at d1
  have e0 : wr.cell? ⟨pk, 0, none⟩ = some (.int .u32 sq) := hpk.cell 0
  have e1 : wr.cell? ⟨pk, 1, none⟩ = some (.slice Ad d.length cd) := hpk.cell 1
  have C0 := fun w => bytes_any nx tx w h0 (by omega) h2
  rw [← hd] at C0
  have C := Lib.hid C0
  have CV := Lib.hid (fun (w : World) (h : Sl w Ad (bs d)) => run_conv (P := Try.prog) h 35 9 5 Try.underlying35 Try.underlying5 Try.underlying9 d.length cd rfl)
  have cv0 : (convert 35 9 (.slice Ad d.length cd)).run Try.prog wr = .ok (.string ⟨d.toArray⟩) wr := CV.out wr hsl
  have cv1 : (convert 35 9 (.slice Ad d.length cd)).run Try.prog wr.drew = .ok (.string ⟨d.toArray⟩) wr.drew := CV.out wr.drew hsl
  have h1' : ¬ tx ≤ nx := by omega
  have hq : decide (tx ≤ nx) = false := decide_eq_false h1'
  have HX := Lib.hid (And.intro hx (And.intro hpk hsl))
  clear hx hpk hsl hd hnx C0
  generalize hL : d.length = ld at *
  generalize hD : (⟨d.toArray⟩ : ByteArray) = sd at *
  have HL := Lib.hid (And.intro hL hD)
  clear hL hD
  conv => arg 2; whnf
  go_region_held3 (fun w' => w'.cell? ⟨xb, 1, none⟩ = some (.int .i64 nx) ∧ w'.cell? ⟨pk, 0, none⟩ = some (.int .u32 sq) ∧ w'.cell? ⟨pk, 1, none⟩ = some (.slice Ad ld cd) ∧ (convert 35 9 (.slice Ad ld cd)).run Try.prog w' = .ok (.string sd) w') (first | exact K0 | exact ⟨d1, e0, e1, cv0⟩ | exact ⟨d1, e0, e1, cv1⟩ | go_keep) (first
    | (go_at_call 11
       go_loud ((with_reducible refine (C.out _).mono ?_)
                rintro e w3 ⟨rfl, hb⟩
                have hb' : Below wr.heap.size wr w3 := ⟨hb.os, hb.tape, hb.output, hb.size, hb.block⟩
                obtain ⟨hx, hpk, hsl⟩ := HX.out
                have K0 : w3.cell? ⟨xb, 1, none⟩ = some (.int .i64 nx) ∧ w3.cell? ⟨pk, 0, none⟩ = some (.int .u32 sq) ∧ w3.cell? ⟨pk, 1, none⟩ = some (.slice Ad ld cd) ∧ (convert 35 9 (.slice Ad ld cd)).run Try.prog w3 = .ok (.string sd) w3 := by
                  refine ⟨(hb'.cell (p := ⟨xb, 1, none⟩) hx.lt).trans d1, (hb'.cell (p := ⟨pk, 0, none⟩) hpk.lt).trans e0, (hb'.cell (p := ⟨pk, 1, none⟩) hpk.lt).trans e1, ?_⟩
                  have := CV.out w3 (hsl.below hb')
                  exact this
                have HB := Lib.hid hb'
                clear hb hb' hx hpk hsl)))
  all_goals
    exact ⟨⟨rfl, rfl, rfl, rfl, rfl, rfl, rfl, rfl, rfl, rfl, rfl, rfl, rfl, rfl, rfl, rfl, rfl, rfl⟩, HB.out⟩
end
end Go.Proofs.Ytnpmelonkcgpgad

