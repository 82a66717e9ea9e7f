/- resent19: bytes are written -/
import Derived.Test.YtnpmelonkcgpgadResW
namespace Go.Proofs.Ytnpmelonkcgpgad
open Go.RowKit
set_option linter.unusedVariables false
set_option linter.unusedSimpArgs false
attribute [local go_sem ↓] Go.wp_at_zero Go.wp_at_succ

section
variable {w wr : World} {pb xb bb c n i : Nat} {A : Option Addr} {q : BufS} {x : SentS} {first told now now0 mss k6 kd mn pl tk : Int} {mayM : Bool}
set_option maxRecDepth 100000 in
set_option maxHeartbeats 2000000 in
theorem kind_write_ok1 {u1 u2 u3 u4 u5 u6 u7 u8 u9 u10 u11 u13 u17 u21 u22 u23 u24 u25 u26 u27 u28 u29 u30 u31 u32 u33 u34 u35 u36 u37 u38 u39 u40 u41 u42 u43 u44 u45 u46 u47 u48 u49 u50 u51 u52 u53 u54 u55 u56 u57 u58 u59 u60 u61 u62 u63 u64 u65 u66 u67 u68 u69 u70 u71 u72 u73 u74 u75 u76 u77 u78 u82 u83 u84 u85 u86 u87 u88 u89 u90 u91 u92 u93 u94 u95 u96 u97 u98 u99 u100 u101 u102 u103 u104 u105 u106 u107 u108 u109 u111 u112 u113 u114 u115 u116 u117 u118 u119 u120 u121 u122 u123 u124 u125 u126 u127 u128 u129 u130 u131 u132 u133 u134 u135 u136 u137 u138 u139 u140 u141 u142 u143 u144 u145 u146 u147 u148 u149 u150 u151 u152 u153 u154 u155 u156 u157 u158 u159 u160 u161 u162 u163 u164 u165 u166 u167 u168 u169 u170 u171 u172 u173 u174 u175 u176 u177 u178 u179 u180 u181 u182 u183 u184 u185 u186 u187 u188 u189 u190 u191 u192 u193 u194 u195 u196 u197 u198 u199 u200 u201 u202 u203 u204 u205 u206 u207 u208 u209 u210 u211 u212 u213 u214 u215 u216 u217 u218 u219 u220 u221 u222 u223 u224 u225 u226 u227 u228 u229 u230 u231 u232 u233 u234 u235 u236 u237 u238 u239 u240 u241 u242 u243 u244 u245 u246 u247 u248 u249 u250 u251 u252 u253 u254 u255 u256 u257 u258 u259 u260 u261 u262 u263 u264 u265 u266 u267 u268 u269 u270 u271 u272 u273 u274 u275 u276 u277 u278 u279 u280 u281 u282 u283 u284 u285 u286 u287 u288 u289 u290 u291 u292 u293 u294 u295 u296 u297 u298 u299 u300 u301 u302 u303 u304 u305 u306 u307 u308 u309 u310 u311 u312 u313 u314 u315 u316 u317 u318 u319 u320 u321 u322 u323 u324 u325 u326 u327 u328 u329 u330 u331 u332 u333 u334 u335 u336 u337 u338 u339 u340 u341 u342 u343 u344 u345 u346 u347 u348 u349 u350 u351 u352 u353 u354 u355 u356 u357 u358 u359 u360 u361 u362 u363 u364 u365 u366 u367 u368 u369 u370 u371 u372 u373 u374 u375 u376 u377 u378 u379 u380 u381 u382 u383 u384 u385 u386 u387 u388 u389 u390 u391 u392 u393 u394 u395 u396 u397 u398 u399 u400 u401 u402 u403 u404 u405 u406 u407 u408 u409 u410 u411 u412 u413 u414 u415 u416 u417 u418 u419 u420 u421 u422 u423 u424 u425 u426 u427 : Value} (h : Amid w wr pb xb bb q x kd mn pl tk) (hk : Keeps first q x now (i + 1)) (hp : x.fin ≤ i * 16385) (hi : i ≤ 59) (m0 : 0 ≤ mn) (m1 : mn < 256) (hl : ¬ 16384 < x.fin - x.una + manyOf mn pl) :
    Code.wp Try.prog (codeAt (fbody Try.f5) [1,1,1,1,1,1,0,1,0,0,1,1,0,0,1,1,1,1,0,1]) (Exit.then (Out (fun a' => (a'.defers = [] ∧ a'.tmps.size = 428 ∧ a'.tmps[0]? = some (.int .u32 first) ∧ a'.tmps[12]? = some (.pointer (some ⟨pb, 0, none⟩)) ∧ a'.tmps[14]? = some (.pointer (some ⟨xb, 0, none⟩)) ∧ a'.tmps[15]? = some (.int .u64 now) ∧ a'.tmps[16]? = some (.int .i64 told) ∧ a'.tmps[79]? = some (.slice A n c) ∧ a'.tmps[80]? = some (.int .i64 n) ∧ a'.tmps[81]? = some (.int .i64 i))) (fun w' => Did w w' pb xb first now (i + 1) (x.write (manyOf mn pl) now))) Never) (⟨#[.int .u32 first, u1, u2, u3, u4, u5, u6, u7, u8, u9, u10, u11, .pointer (some ⟨pb, 0, none⟩), u13, .pointer (some ⟨xb, 0, none⟩), .int .u64 now, .int .i64 told, u17, .pointer (some ⟨bb, 0, none⟩), .int .i64 mss, .bool mayM, u21, u22, u23, u24, u25, u26, u27, u28, u29, u30, u31, u32, u33, u34, u35, u36, u37, u38, u39, u40, u41, u42, u43, u44, u45, u46, u47, u48, u49, u50, u51, u52, u53, u54, u55, u56, u57, u58, u59, u60, u61, u62, u63, u64, u65, u66, u67, u68, u69, u70, u71, u72, u73, u74, u75, u76, u77, u78, .slice A n c, .int .i64 n, .int .i64 i, u82, u83, u84, u85, u86, u87, u88, u89, u90, u91, u92, u93, u94, u95, u96, u97, u98, u99, u100, u101, u102, u103, u104, u105, u106, u107, u108, u109, .int .u8 1, u111, u112, u113, u114, u115, u116, u117, u118, u119, u120, u121, u122, u123, u124, u125, u126, u127, u128, u129, u130, u131, u132, u133, u134, u135, u136, u137, u138, u139, u140, u141, u142, u143, u144, u145, u146, u147, u148, u149, u150, u151, u152, u153, u154, u155, u156, u157, u158, u159, u160, u161, u162, u163, u164, u165, u166, u167, u168, u169, u170, u171, u172, u173, u174, u175, u176, u177, u178, u179, u180, u181, u182, u183, u184, u185, u186, u187, u188, u189, u190, u191, u192, u193, u194, u195, u196, u197, u198, u199, u200, u201, u202, u203, u204, u205, u206, u207, u208, u209, u210, u211, u212, u213, u214, u215, u216, u217, u218, u219, u220, u221, u222, u223, u224, u225, u226, u227, u228, u229, u230, u231, u232, u233, u234, u235, u236, u237, u238, u239, u240, u241, u242, u243, u244, u245, u246, u247, u248, u249, u250, u251, u252, u253, u254, u255, u256, u257, u258, u259, u260, u261, u262, u263, u264, u265, u266, u267, u268, u269, u270, u271, u272, u273, u274, u275, u276, u277, u278, u279, u280, u281, u282, u283, u284, u285, u286, u287, u288, u289, u290, u291, u292, u293, u294, u295, u296, u297, u298, u299, u300, u301, u302, u303, u304, u305, u306, u307, u308, u309, u310, u311, u312, u313, u314, u315, u316, u317, u318, u319, u320, u321, u322, u323, u324, u325, u326, u327, u328, u329, u330, u331, u332, u333, u334, u335, u336, u337, u338, u339, u340, u341, u342, u343, u344, u345, u346, u347, u348, u349, u350, u351, u352, u353, u354, u355, u356, u357, u358, u359, u360, u361, u362, u363, u364, u365, u366, u367, u368, u369, u370, u371, u372, u373, u374, u375, u376, u377, u378, u379, u380, u381, u382, u383, u384, u385, u386, u387, u388, u389, u390, u391, u392, u393, u394, u395, u396, u397, u398, u399, u400, u401, u402, u403, u404, u405, u406, u407, u408, u409, u410, u411, u412, u413, u414, u415, u416, u417, u418, u419, u420, u421, u422, u423, u424, u425, u426, u427], []⟩ : Act) wr := by
  have hmn : 0 ≤ manyOf mn pl ∧ manyOf mn pl ≤ 16385 := by unfold manyOf; split <;> omega
  have e1' : wr.cell? ⟨bb, 1, none⟩ = some (.int .u8 mn) := h.act.cell 1
  have e2' : wr.cell? ⟨bb, 2, none⟩ = some (.int .i16 pl) := h.act.cell 2
  obtain ⟨d0, d1, d2, d3, d4, d5, d6, d7, d8, d9⟩ := h.st.note.cells
  have p0 := hk.p0
  have p1 := hk.p1
  have p2 := hk.p2
  have p3 := hk.p3
  have hlen := hk.len
  have n0 := hk.n0
  have n1 := hk.n1
  have r0 := hk.r0
  have r1 := hk.r1
  have r00 : 0 ≤ x.rto := by omega
  have n11 : now ≤ 1099511627776 := by omega
  have hpl : ¬ pl = -1 := by rintro rfl; unfold manyOf at hl; rw [if_pos rfl] at hl; omega
  have hm : manyOf mn pl = mn := by unfold manyOf; rw [if_neg hpl]
  have hpl' : (pl == -1) = false := by simpa using hpl
  rw [hm] at hl hmn ⊢
  have hkw0 := fun A c => hk.write hp mn m0 hmn.2 (by omega) hl A c
  obtain ⟨d, hd⟩ : ∃ d, d = bytesL x.fin mn.toNat := ⟨_, rfl⟩
  rw [← hd] at hkw0
  have hkw := Lib.hid hkw0
  have HD : Hid (d.length = mn.toNat) := Lib.hid (by rw [hd]; simp)
  have C := Lib.hid (fun w => bytes_d x.fin mn d hd w (by omega) (by omega) (by omega))
  have HK := Lib.hid hk
  have HS := Lib.hid h.st
  have l1 := hk.in_.l1
  clear h hk d1 d3 d4 d5 d6 d7 d8 d9 hd hm hpl hkw0
  by_cases hc : x.fin = x.una
  · by_cases hz : 0 < mn
    · have hfin : Hid (x.write mn now = ({ x with fin := x.fin + mn } : SentS).anew now) := Lib.hid (by unfold SentS.write; rw [if_neg hl, if_pos ⟨hc, hz⟩])
      have hce : (x.fin == x.una) = true := by simpa using hc
      clear hc
      conv => arg 2; whnf
      go_wp2_with (first
        | (go_at_call 11
           go_loud ((with_reducible refine (C.out _).mono ?_)
                    rintro e w1 ⟨rfl, hb1⟩
                    obtain ⟨A2, c2, w2, hcv, hsl, hb2⟩ := conv_bytes w1 d
                    have hst := HS.out.grow (hb1.trans (hb2.mono hb1.size))
                    have WL := write_all w2 hst.buf HK.out.in_ A2 d c2 now (by have := HD.out; omega) hsl n0 (by omega)
                    have W := Lib.hid WL
                    have HS2 := Lib.hid hst
                    clear hb1 hb2 hsl hst WL))
        | (go_at_call 7
           go_loud ((with_reducible refine W.out.mono ?_)
                    rintro e w3 ⟨A', c', rfl, hq3, ho3, hA3⟩
                    have hx := HS2.out.note.lt
                    have hst3 := HS2.out.turn hq3 ho3 (fun _ a ha => by have := hA3 a ha; omega)
                    obtain ⟨g0, g1, g2, g3, g4, g5, g6, g7, g8, g9⟩ := hst3.note.cells
                    have gf := Blk.frozen hst3.note 2
                    have hn4 : SentAt (w3.setCell ⟨xb, 2, none⟩ (.int .i64 (x.fin + mn))) xb { x with fin := x.fin + mn } := Blk.set_ hst3.note 2 _
                    have ho4 : Only [xb] w3 (w3.setCell ⟨xb, 2, none⟩ (.int .i64 (x.fin + mn))) := (Only.refl _ _).setCell (.inl (by simp)) _
                    have HS4 := Lib.hid (hst3.note_ hn4 ho4)
                    clear hq3 ho3 hA3 hst3 g1 g3 g4 g5 g6 g7 g8 g9 hn4 ho4))
        | (go_at_call 12
           go_loud (have hn5 := HS4.out.note
                    (with_reducible refine (sentanew_any _ now hn5 r00 r1 n0 n11).mono ?_)
                    clear hn5
                    rintro e w5 ⟨rfl, hn6, ho6⟩)))
      refine ⟨⟨rfl, rfl, rfl, rfl, rfl, rfl, rfl, rfl, rfl, rfl⟩, ?_⟩
      have hkx := hkw.out A' c'
      rw [hfin.out] at hkx ⊢
      exact ⟨_, HS4.out.note_ hn6 ho6, hkx⟩
    · have hfin : Hid (x.write mn now = { x with fin := x.fin + mn }) := Lib.hid (by unfold SentS.write; rw [if_neg hl, if_neg (fun h => hz h.2)])
      have hce : (x.fin == x.una) = true := by simpa using hc
      have hz' : decide (0 < mn) = false := decide_eq_false hz
      clear hc
      conv => arg 2; whnf
      go_wp2_with (first
        | (go_at_call 11
           go_loud ((with_reducible refine (C.out _).mono ?_)
                    rintro e w1 ⟨rfl, hb1⟩
                    obtain ⟨A2, c2, w2, hcv, hsl, hb2⟩ := conv_bytes w1 d
                    have hst := HS.out.grow (hb1.trans (hb2.mono hb1.size))
                    have WL := write_all w2 hst.buf HK.out.in_ A2 d c2 now (by have := HD.out; omega) hsl n0 (by omega)
                    have W := Lib.hid WL
                    have HS2 := Lib.hid hst
                    clear hb1 hb2 hsl hst WL))
        | (go_at_call 7
           go_loud ((with_reducible refine W.out.mono ?_)
                    rintro e w3 ⟨A', c', rfl, hq3, ho3, hA3⟩
                    have hx := HS2.out.note.lt
                    have hst3 := HS2.out.turn hq3 ho3 (fun _ a ha => by have := hA3 a ha; omega)
                    obtain ⟨g0, g1, g2, g3, g4, g5, g6, g7, g8, g9⟩ := hst3.note.cells
                    have gf := Blk.frozen hst3.note 2
                    have hn4 : SentAt (w3.setCell ⟨xb, 2, none⟩ (.int .i64 (x.fin + mn))) xb { x with fin := x.fin + mn } := Blk.set_ hst3.note 2 _
                    have ho4 : Only [xb] w3 (w3.setCell ⟨xb, 2, none⟩ (.int .i64 (x.fin + mn))) := (Only.refl _ _).setCell (.inl (by simp)) _
                    have HS4 := Lib.hid (hst3.note_ hn4 ho4)
                    clear hq3 ho3 hA3 hst3 g1 g3 g4 g5 g6 g7 g8 g9 hn4 ho4)))
      refine ⟨⟨rfl, rfl, rfl, rfl, rfl, rfl, rfl, rfl, rfl, rfl⟩, ?_⟩
      have hkx := hkw.out A' c'
      rw [hfin.out] at hkx ⊢
      exact ⟨_, HS4.out, hkx⟩
  · by_cases tok : True
    · have hfin : Hid (x.write mn now = { x with fin := x.fin + mn }) := Lib.hid (by unfold SentS.write; rw [if_neg hl, if_neg (fun h => hc h.1)])
      have hce : (x.fin == x.una) = false := by simpa using hc
      clear hc tok
      conv => arg 2; whnf
      go_wp2_with (first
        | (go_at_call 11
           go_loud ((with_reducible refine (C.out _).mono ?_)
                    rintro e w1 ⟨rfl, hb1⟩
                    obtain ⟨A2, c2, w2, hcv, hsl, hb2⟩ := conv_bytes w1 d
                    have hst := HS.out.grow (hb1.trans (hb2.mono hb1.size))
                    have WL := write_all w2 hst.buf HK.out.in_ A2 d c2 now (by have := HD.out; omega) hsl n0 (by omega)
                    have W := Lib.hid WL
                    have HS2 := Lib.hid hst
                    clear hb1 hb2 hsl hst WL))
        | (go_at_call 7
           go_loud ((with_reducible refine W.out.mono ?_)
                    rintro e w3 ⟨A', c', rfl, hq3, ho3, hA3⟩
                    have hx := HS2.out.note.lt
                    have hst3 := HS2.out.turn hq3 ho3 (fun _ a ha => by have := hA3 a ha; omega)
                    obtain ⟨g0, g1, g2, g3, g4, g5, g6, g7, g8, g9⟩ := hst3.note.cells
                    have gf := Blk.frozen hst3.note 2
                    have hn4 : SentAt (w3.setCell ⟨xb, 2, none⟩ (.int .i64 (x.fin + mn))) xb { x with fin := x.fin + mn } := Blk.set_ hst3.note 2 _
                    have ho4 : Only [xb] w3 (w3.setCell ⟨xb, 2, none⟩ (.int .i64 (x.fin + mn))) := (Only.refl _ _).setCell (.inl (by simp)) _
                    have HS4 := Lib.hid (hst3.note_ hn4 ho4)
                    clear hq3 ho3 hA3 hst3 g1 g3 g4 g5 g6 g7 g8 g9 hn4 ho4)))
      refine ⟨⟨rfl, rfl, rfl, rfl, rfl, rfl, rfl, rfl, rfl, rfl⟩, ?_⟩
      have hkx := hkw.out A' c'
      rw [hfin.out] at hkx ⊢
      exact ⟨_, HS4.out, hkx⟩
    · exact absurd trivial tok
end
end Go.Proofs.Ytnpmelonkcgpgad

