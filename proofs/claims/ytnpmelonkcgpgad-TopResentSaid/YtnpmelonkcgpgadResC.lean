/- resent19: a copy -/
import Derived.Test.YtnpmelonkcgpgadResW
import Derived.Lib.SlBytesConst
namespace Go.Proofs.Ytnpmelonkcgpgad
open Go.RowKit
set_option linter.unusedVariables false
set_option linter.unusedSimpArgs false
attribute [local go_sem ↓] Go.wp_at_zero Go.wp_at_succ

section
variable {w wr : World} {pb xb bb c n i : Nat} {A : Option Addr} {q : BufS} {x : SentS} {first told now now0 mss k6 kd mn pl tk : Int} {mayM : Bool}

theorem row_new (w : World) (cs : List Value) (t : TypeId) (fr : Nat × Nat) : Sl (w.alloc (.cells cs.toArray t fr)) (some ⟨w.heap.size, 0, none⟩) cs :=
  fun _ => ⟨_, 0, rfl, fun j v hj => by rw [World.cell?_alloc_mark, Nat.zero_add]; simpa using hj⟩
theorem write_some {b : Nat} (w : World) (h : BufAt w b q) (hi : BufIn q) (A : Option Addr) (d : List UInt8) (c : Nat) (now : Int) (hd : Sl w A (bs d)) (hdl : d.length ≤ 100) (n0 : 0 ≤ now) (n1 : now ≤ 1099511627776) :
    Calls Try.prog 7 #[.pointer (some ⟨b, 0, none⟩), .slice A d.length c, .int .u64 now] w fun e w' => ∃ k q', e = .returned (.int .i64 k) ∧ BufAt w' b q' ∧ BufIn q' ∧ Only [b] w w' := by
  by_cases hl : 16384 < q.data.length + d.length
  · refine (write_long w h hi A d.length c now hl (by omega)).mono ?_
    rintro e w' ⟨rfl, rfl⟩
    exact ⟨3, q, rfl, h, hi, Only.refl _ _⟩
  · refine (write_all w h hi A d c now (by omega) hd n0 n1).mono ?_
    rintro e w' ⟨A', c', rfl, h1, h2, _⟩
    exact ⟨0, _, rfl, h1, ⟨hi.u0, hi.u1, hi.s0, by have := hi.s1; simp only [BufS.write, List.length_append]; omega, by simp only [BufS.write, List.length_append]; omega, hi.w0, hi.w1, hi.r0, hi.r1⟩, h2⟩
theorem St.apart {w' : World} {cb : Nat} (h : St w wr pb xb q x) (ho : Only [cb] wr w') (h1 : pb ≠ cb) (h2 : xb ≠ cb) (h3 : 0 < q.data.length → ∀ a, q.A = some a → a.block ≠ cb) (h4 : w.heap.size ≤ cb) : St w w' pb xb q x := by
  refine ⟨⟨h.buf.blk.only ho (by simpa using h1), ?_, h.buf.ne, h.buf.cap, h.buf.cap1, h.buf.nil⟩, Blk.only h.note ho (by simpa using h2), h.ne, h.dat, h.bel.trans (ho.toBelow h.bel.size (by simpa using h4)), h.pge, h.xge⟩
  intro hp
  exact sl_only h.buf.sl ho (fun a ha => by simpa using h3 (by simpa using hp) a ha) hp
set_option maxRecDepth 100000 in
set_option maxHeartbeats 2000000 in
theorem kind_copy {u1 u2 u3 u4 u5 u6 u7 u8 u9 u10 u11 u13 u17 u21 u22 u23 u24 u25 u26 u27 u28 u29 u30 u31 u32 u33 u34 u35 u36 u37 u38 u39 u40 u41 u42 u43 u44 u45 u46 u47 u48 u49 u50 u51 u52 u53 u54 u55 u56 u57 u58 u59 u60 u61 u62 u63 u64 u65 u66 u67 u68 u69 u70 u71 u72 u73 u74 u75 u76 u77 u78 u82 u83 u84 u85 u86 u87 u88 u89 u90 u91 u92 u93 u94 u95 u96 u97 u98 u99 u100 u101 u102 u103 u104 u105 u106 u107 u108 u109 u111 u112 u113 u114 u115 u116 u117 u118 u119 u120 u121 u122 u123 u124 u125 u126 u127 u128 u129 u130 u131 u132 u133 u134 u135 u136 u137 u138 u139 u140 u141 u142 u143 u144 u145 u146 u147 u148 u149 u150 u151 u152 u153 u154 u155 u156 u157 u158 u159 u160 u161 u162 u163 u164 u165 u166 u167 u168 u169 u170 u171 u172 u173 u174 u175 u176 u177 u178 u179 u180 u181 u182 u183 u184 u185 u186 u187 u188 u189 u190 u191 u192 u193 u194 u195 u196 u197 u198 u199 u200 u201 u202 u203 u204 u205 u206 u207 u208 u209 u210 u211 u212 u213 u214 u215 u216 u217 u218 u219 u220 u221 u222 u223 u224 u225 u226 u227 u228 u229 u230 u231 u232 u233 u234 u235 u236 u237 u238 u239 u240 u241 u242 u243 u244 u245 u246 u247 u248 u249 u250 u251 u252 u253 u254 u255 u256 u257 u258 u259 u260 u261 u262 u263 u264 u265 u266 u267 u268 u269 u270 u271 u272 u273 u274 u275 u276 u277 u278 u279 u280 u281 u282 u283 u284 u285 u286 u287 u288 u289 u290 u291 u292 u293 u294 u295 u296 u297 u298 u299 u300 u301 u302 u303 u304 u305 u306 u307 u308 u309 u310 u311 u312 u313 u314 u315 u316 u317 u318 u319 u320 u321 u322 u323 u324 u325 u326 u327 u328 u329 u330 u331 u332 u333 u334 u335 u336 u337 u338 u339 u340 u341 u342 u343 u344 u345 u346 u347 u348 u349 u350 u351 u352 u353 u354 u355 u356 u357 u358 u359 u360 u361 u362 u363 u364 u365 u366 u367 u368 u369 u370 u371 u372 u373 u374 u375 u376 u377 u378 u379 u380 u381 u382 u383 u384 u385 u386 u387 u388 u389 u390 u391 u392 u393 u394 u395 u396 u397 u398 u399 u400 u401 u402 u403 u404 u405 u406 u407 u408 u409 u410 u411 u412 u413 u414 u415 u416 u417 u418 u419 u420 u421 u422 u423 u424 u425 u426 u427 : Value} (h : Amid w wr pb xb bb q x kd mn pl tk) (hk : Keeps first q x now (i + 1)) (hp : x.fin ≤ i * 16385) (hi : i ≤ 59) :
    Code.wp Try.prog (codeAt (fbody Try.f5) [1,1,1,1,1,1,0,1,0,0,1,1,0,0,1,1,1,1,0,1]) (Exit.then (Out (fun a' => (a'.defers = [] ∧ a'.tmps.size = 428 ∧ a'.tmps[0]? = some (.int .u32 first) ∧ a'.tmps[12]? = some (.pointer (some ⟨pb, 0, none⟩)) ∧ a'.tmps[14]? = some (.pointer (some ⟨xb, 0, none⟩)) ∧ a'.tmps[15]? = some (.int .u64 now) ∧ a'.tmps[16]? = some (.int .i64 told) ∧ a'.tmps[79]? = some (.slice A n c) ∧ a'.tmps[80]? = some (.int .i64 n) ∧ a'.tmps[81]? = some (.int .i64 i))) (fun w' => Did w w' pb xb first now (i + 1) x)) Never) (⟨#[.int .u32 first, u1, u2, u3, u4, u5, u6, u7, u8, u9, u10, u11, .pointer (some ⟨pb, 0, none⟩), u13, .pointer (some ⟨xb, 0, none⟩), .int .u64 now, .int .i64 told, u17, .pointer (some ⟨bb, 0, none⟩), .int .i64 mss, .bool mayM, u21, u22, u23, u24, u25, u26, u27, u28, u29, u30, u31, u32, u33, u34, u35, u36, u37, u38, u39, u40, u41, u42, u43, u44, u45, u46, u47, u48, u49, u50, u51, u52, u53, u54, u55, u56, u57, u58, u59, u60, u61, u62, u63, u64, u65, u66, u67, u68, u69, u70, u71, u72, u73, u74, u75, u76, u77, u78, .slice A n c, .int .i64 n, .int .i64 i, u82, u83, u84, u85, u86, u87, u88, u89, u90, u91, u92, u93, u94, u95, u96, u97, u98, u99, u100, u101, u102, u103, u104, u105, u106, u107, u108, u109, .int .u8 5, u111, u112, u113, u114, u115, u116, u117, u118, u119, u120, u121, u122, u123, u124, u125, u126, u127, u128, u129, u130, u131, u132, u133, u134, u135, u136, u137, u138, u139, u140, u141, u142, u143, u144, u145, u146, u147, u148, u149, u150, u151, u152, u153, u154, u155, u156, u157, u158, u159, u160, u161, u162, u163, u164, u165, u166, u167, u168, u169, u170, u171, u172, u173, u174, u175, u176, u177, u178, u179, u180, u181, u182, u183, u184, u185, u186, u187, u188, u189, u190, u191, u192, u193, u194, u195, u196, u197, u198, u199, u200, u201, u202, u203, u204, u205, u206, u207, u208, u209, u210, u211, u212, u213, u214, u215, u216, u217, u218, u219, u220, u221, u222, u223, u224, u225, u226, u227, u228, u229, u230, u231, u232, u233, u234, u235, u236, u237, u238, u239, u240, u241, u242, u243, u244, u245, u246, u247, u248, u249, u250, u251, u252, u253, u254, u255, u256, u257, u258, u259, u260, u261, u262, u263, u264, u265, u266, u267, u268, u269, u270, u271, u272, u273, u274, u275, u276, u277, u278, u279, u280, u281, u282, u283, u284, u285, u286, u287, u288, u289, u290, u291, u292, u293, u294, u295, u296, u297, u298, u299, u300, u301, u302, u303, u304, u305, u306, u307, u308, u309, u310, u311, u312, u313, u314, u315, u316, u317, u318, u319, u320, u321, u322, u323, u324, u325, u326, u327, u328, u329, u330, u331, u332, u333, u334, u335, u336, u337, u338, u339, u340, u341, u342, u343, u344, u345, u346, u347, u348, u349, u350, u351, u352, u353, u354, u355, u356, u357, u358, u359, u360, u361, u362, u363, u364, u365, u366, u367, u368, u369, u370, u371, u372, u373, u374, u375, u376, u377, u378, u379, u380, u381, u382, u383, u384, u385, u386, u387, u388, u389, u390, u391, u392, u393, u394, u395, u396, u397, u398, u399, u400, u401, u402, u403, u404, u405, u406, u407, u408, u409, u410, u411, u412, u413, u414, u415, u416, u417, u418, u419, u420, u421, u422, u423, u424, u425, u426, u427], []⟩ : Act) wr := by
  have n0 := hk.n0
  have n1 := hk.n1
  have HK := Lib.hid hk
  have HS := Lib.hid h.st
  have CP := Lib.hid (copy_any wr h.st.buf hk.in_)
  have hTold := Lib.hid (hk.told (by omega))
  have l1 := hk.in_.l1
  have hiq := Lib.hid (show ∀ (A : Option Addr) (cc : Nat), BufIn { q with A := A, cap := cc } from fun A cc => ⟨hk.in_.u0, hk.in_.u1, hk.in_.s0, hk.in_.s1, hk.in_.l1, hk.in_.w0, hk.in_.w1, hk.in_.r0, hk.in_.r1⟩)
  have ht := Lib.hid (show ∀ w c A cc, BufAt w c { q with A := A, cap := cc } → SentAt w xb x → Calls Try.prog 14 #[.pointer (some ⟨xb, 0, none⟩), .pointer (some ⟨c, 0, none⟩), .int .u32 first] w fun e w' => e = .returned (.bool true) ∧ ∃ n, w' = w.drewN n from
    fun w c A cc hq hx => told_any w hq ⟨hk.in_.u0, hk.in_.u1, hk.in_.s0, hk.in_.s1, hk.in_.l1, hk.in_.w0, hk.in_.w1, hk.in_.r0, hk.in_.r1⟩ hx ⟨hTold.out.e1, hTold.out.e2, hTold.out.e3, hTold.out.e4, hTold.out.e5, hTold.out.e6⟩)
  clear h hk
  conv => arg 2; whnf
  go_wp2_with (first
    | (go_at_call 13
       go_loud ((with_reducible refine CP.out.mono ?_)
                rintro e w3 ⟨rfl, ⟨A3, c3, hq3⟩, hb3⟩
                have HS3 := Lib.hid (HS.out.grow hb3)
                have HQ3 := Lib.hid hq3
                have HB3 := Lib.hid hb3
                clear hq3 hb3))
    | (go_at_call 14
       go_loud ((with_reducible refine (ht.out _ _ _ _ HQ3.out HS3.out.note).mono ?_)
                rintro e w4 ⟨rfl, n4, rfl⟩
                have kc : (convert 35 35 (.slice (some ⟨w3.heap.size, 0, none⟩) 4 4)).run Try.prog ((w3.drewN n4).alloc (.cells #[.int .u8 109, .int .u8 111, .int .u8 114, .int .u8 101] 5)) = .ok (.slice (some ⟨w3.heap.size, 0, none⟩) 4 4) ((w3.drewN n4).alloc (.cells #[.int .u8 109, .int .u8 111, .int .u8 114, .int .u8 101] 5 (4, 5))) := Lib.run_convert_bytes_const (P := Try.prog) (w3.drewN n4) 35 5 #[.int .u8 109, .int .u8 111, .int .u8 114, .int .u8 101] 4 4 Try.underlying35 Try.underlying5
                have kw : Below w3.heap.size w3 ((w3.drewN n4).alloc (.cells #[.int .u8 109, .int .u8 111, .int .u8 114, .int .u8 101] 5 (4, 5))) := (bel_drewN (Below.refl _ _) n4).alloc (Nat.le_refl _) _
                have ks : Sl ((w3.drewN n4).alloc (.cells #[.int .u8 109, .int .u8 111, .int .u8 114, .int .u8 101] 5 (4, 5))) (some ⟨w3.heap.size, 0, none⟩) (bs [109, 111, 114, 101]) := by
                  have := row_new (w3.drewN n4) (bs [109, 111, 114, 101]) 5 (4, 5)
                  simpa [bs] using this
                have WS0 := write_some _ (HQ3.out.grow kw) (hiq.out _ _) (some ⟨w3.heap.size, 0, none⟩) [109, 111, 114, 101] 4 now ks (by simp) n0 (by omega)
                simp only [List.length_cons, List.length_nil, Nat.reduceAdd] at WS0
                have WS := Lib.hid WS0
                have HS5 := Lib.hid (HS3.out.grow kw)
                have HB5 := Lib.hid (HB3.out.trans (kw.mono HB3.out.size))
                clear kw ks WS0))
    | (go_at_call 7
       go_loud ((with_reducible refine WS.out.mono ?_)
                rintro e w6 ⟨k6, q6, rfl, hq6, hi6, ho6⟩
                have SS := Lib.hid (send_ok w6 hq6 hi6 3 rfl)
                have HO6 := Lib.hid ho6
                clear hq6 hi6 ho6))
    | (go_at_call 8
       go_loud ((with_reducible refine SS.out.mono ?_)
                rintro e w7 ⟨A7, c7, vs7, rfl, hs7, hr7, hq7, ho7, _⟩
                have HO7 := Lib.hid ho7
                clear hs7 hr7 hq7 ho7)))
  refine ⟨⟨rfl, rfl, rfl, rfl, rfl, rfl, rfl, rfl, rfl, rfl⟩, ?_⟩
  have hl := HS.out.note.lt
  have hl2 := HS.out.buf.blk.lt
  exact ⟨_, HS5.out.apart (HO6.out.trans HO7.out) (by omega) (by omega) (fun hd a ha => by
    obtain ⟨bb2, oo2, hA2, hcc⟩ := HS.out.buf.sl (by simpa using hd)
    obtain rfl := Option.some.inj (ha.symm.trans hA2)
    have := cell_lt (hcc 0 _ (by rw [List.getElem?_eq_getElem (by simpa using hd)]))
    have h9 : bb2 < wr.heap.size := this
    show bb2 ≠ _
    omega) HS.out.bel.size, HK.out⟩
end
end Go.Proofs.Ytnpmelonkcgpgad

