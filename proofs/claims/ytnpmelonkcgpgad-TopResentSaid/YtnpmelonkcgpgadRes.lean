/- resent19: acts, one by one -/
import Derived.Test.YtnpmelonkcgpgadResS
import Derived.Test.YtnpmelonkcgpgadResA
import Derived.Test.YtnpmelonkcgpgadResC
import Derived.Test.YtnpmelonkcgpgadResL0
import Derived.Test.YtnpmelonkcgpgadResL1
import Derived.Test.YtnpmelonkcgpgadResM0
import Derived.Test.YtnpmelonkcgpgadResM1
import Derived.Test.YtnpmelonkcgpgadResN
import Derived.Test.YtnpmelonkcgpgadResP
import Derived.Test.YtnpmelonkcgpgadResQ
import Derived.Test.YtnpmelonkcgpgadResT
import Derived.Test.YtnpmelonkcgpgadStructs
namespace Go.Proofs.Ytnpmelonkcgpgad
open Go.RowKit
set_option linter.unusedVariables false
set_option linter.unusedSimpArgs false
attribute [local go_sem ↓] Go.wp_at_zero Go.wp_at_succ

section
variable {w wr : World} {pb xb bb c n i : Nat} {A : Option Addr} {q : BufS} {x : SentS} {first told now now0 mss k6 kd mn pl tk : Int} {mayM : Bool}

theorem Out.mono {K K2 : Act → Prop} {M M2 : World → Prop} {a : Act} {w : World} (h : Out K M a w) (hk : K a → K2 a) (hm : M w → M2 w) : Out K2 M2 a w := ⟨hk h.frame, hm h.world⟩

/-- What an act does, as the noter counts. -/
theorem step_kind {u1 u2 u3 u4 u5 u6 u7 u8 u9 u10 u11 u13 u17 u21 u22 u23 u24 u25 u26 u27 u28 u29 u30 u31 u32 u33 u34 u35 u36 u37 u38 u39 u40 u41 u42 u43 u44 u45 u46 u47 u48 u49 u50 u51 u52 u53 u54 u55 u56 u57 u58 u59 u60 u61 u62 u63 u64 u65 u66 u67 u68 u69 u70 u71 u72 u73 u74 u75 u76 u77 u78 u82 u83 u84 u85 u86 u87 u88 u89 u90 u91 u92 u93 u94 u95 u96 u97 u98 u99 u100 u101 u102 u103 u104 u105 u106 u107 u108 u109 u111 u112 u113 u114 u115 u116 u117 u118 u119 u120 u121 u122 u123 u124 u125 u126 u127 u128 u129 u130 u131 u132 u133 u134 u135 u136 u137 u138 u139 u140 u141 u142 u143 u144 u145 u146 u147 u148 u149 u150 u151 u152 u153 u154 u155 u156 u157 u158 u159 u160 u161 u162 u163 u164 u165 u166 u167 u168 u169 u170 u171 u172 u173 u174 u175 u176 u177 u178 u179 u180 u181 u182 u183 u184 u185 u186 u187 u188 u189 u190 u191 u192 u193 u194 u195 u196 u197 u198 u199 u200 u201 u202 u203 u204 u205 u206 u207 u208 u209 u210 u211 u212 u213 u214 u215 u216 u217 u218 u219 u220 u221 u222 u223 u224 u225 u226 u227 u228 u229 u230 u231 u232 u233 u234 u235 u236 u237 u238 u239 u240 u241 u242 u243 u244 u245 u246 u247 u248 u249 u250 u251 u252 u253 u254 u255 u256 u257 u258 u259 u260 u261 u262 u263 u264 u265 u266 u267 u268 u269 u270 u271 u272 u273 u274 u275 u276 u277 u278 u279 u280 u281 u282 u283 u284 u285 u286 u287 u288 u289 u290 u291 u292 u293 u294 u295 u296 u297 u298 u299 u300 u301 u302 u303 u304 u305 u306 u307 u308 u309 u310 u311 u312 u313 u314 u315 u316 u317 u318 u319 u320 u321 u322 u323 u324 u325 u326 u327 u328 u329 u330 u331 u332 u333 u334 u335 u336 u337 u338 u339 u340 u341 u342 u343 u344 u345 u346 u347 u348 u349 u350 u351 u352 u353 u354 u355 u356 u357 u358 u359 u360 u361 u362 u363 u364 u365 u366 u367 u368 u369 u370 u371 u372 u373 u374 u375 u376 u377 u378 u379 u380 u381 u382 u383 u384 u385 u386 u387 u388 u389 u390 u391 u392 u393 u394 u395 u396 u397 u398 u399 u400 u401 u402 u403 u404 u405 u406 u407 u408 u409 u410 u411 u412 u413 u414 u415 u416 u417 u418 u419 u420 u421 u422 u423 u424 u425 u426 u427 : Value} (h : Amid w wr pb xb bb q x kd mn pl tk) (hk : Keeps first q x now (i + 1)) (hp : x.fin ≤ i * 16385) (hi : i ≤ 59)
    (k0 : 0 ≤ kd) (k1 : kd < 256) (m0 : 0 ≤ mn) (m1 : mn < 256) (pl0 : -32768 ≤ pl) (pl1 : pl ≤ 32767) (hk6 : k6 = kd % 6) (hmss : mss = mssOf mn pl) (hmay : mayM = mayB mss) (hnow : now = now0 + tk % 64) (ht0 : 0 ≤ told) (ht1 : told ≤ 10000000) :
    Code.wp Try.prog (codeAt (fbody Try.f5) [1,1,1,1,1,1,0,1,0,0,1,1,0,0,1,1,1,1,0,1]) (Exit.then (fun a' w' => ∃ t2, t2 = (ResS.step ⟨x, now0, told⟩ (kd, mn, pl, tk)).told ∧ Out (fun a' => (a'.defers = [] ∧ a'.tmps.size = 428 ∧ a'.tmps[0]? = some (.int .u32 first) ∧ a'.tmps[12]? = some (.pointer (some ⟨pb, 0, none⟩)) ∧ a'.tmps[14]? = some (.pointer (some ⟨xb, 0, none⟩)) ∧ a'.tmps[15]? = some (.int .u64 now) ∧ a'.tmps[16]? = some (.int .i64 t2) ∧ a'.tmps[79]? = some (.slice A n c) ∧ a'.tmps[80]? = some (.int .i64 n) ∧ a'.tmps[81]? = some (.int .i64 i))) (fun w' => Did w w' pb xb first now (i + 1) (ResS.step ⟨x, now0, told⟩ (kd, mn, pl, tk)).x) a' w') Never) (⟨#[.int .u32 first, u1, u2, u3, u4, u5, u6, u7, u8, u9, u10, u11, .pointer (some ⟨pb, 0, none⟩), u13, .pointer (some ⟨xb, 0, none⟩), .int .u64 now, .int .i64 told, u17, .pointer (some ⟨bb, 0, none⟩), .int .i64 mss, .bool mayM, u21, u22, u23, u24, u25, u26, u27, u28, u29, u30, u31, u32, u33, u34, u35, u36, u37, u38, u39, u40, u41, u42, u43, u44, u45, u46, u47, u48, u49, u50, u51, u52, u53, u54, u55, u56, u57, u58, u59, u60, u61, u62, u63, u64, u65, u66, u67, u68, u69, u70, u71, u72, u73, u74, u75, u76, u77, u78, .slice A n c, .int .i64 n, .int .i64 i, u82, u83, u84, u85, u86, u87, u88, u89, u90, u91, u92, u93, u94, u95, u96, u97, u98, u99, u100, u101, u102, u103, u104, u105, u106, u107, u108, u109, .int .u8 k6, u111, u112, u113, u114, u115, u116, u117, u118, u119, u120, u121, u122, u123, u124, u125, u126, u127, u128, u129, u130, u131, u132, u133, u134, u135, u136, u137, u138, u139, u140, u141, u142, u143, u144, u145, u146, u147, u148, u149, u150, u151, u152, u153, u154, u155, u156, u157, u158, u159, u160, u161, u162, u163, u164, u165, u166, u167, u168, u169, u170, u171, u172, u173, u174, u175, u176, u177, u178, u179, u180, u181, u182, u183, u184, u185, u186, u187, u188, u189, u190, u191, u192, u193, u194, u195, u196, u197, u198, u199, u200, u201, u202, u203, u204, u205, u206, u207, u208, u209, u210, u211, u212, u213, u214, u215, u216, u217, u218, u219, u220, u221, u222, u223, u224, u225, u226, u227, u228, u229, u230, u231, u232, u233, u234, u235, u236, u237, u238, u239, u240, u241, u242, u243, u244, u245, u246, u247, u248, u249, u250, u251, u252, u253, u254, u255, u256, u257, u258, u259, u260, u261, u262, u263, u264, u265, u266, u267, u268, u269, u270, u271, u272, u273, u274, u275, u276, u277, u278, u279, u280, u281, u282, u283, u284, u285, u286, u287, u288, u289, u290, u291, u292, u293, u294, u295, u296, u297, u298, u299, u300, u301, u302, u303, u304, u305, u306, u307, u308, u309, u310, u311, u312, u313, u314, u315, u316, u317, u318, u319, u320, u321, u322, u323, u324, u325, u326, u327, u328, u329, u330, u331, u332, u333, u334, u335, u336, u337, u338, u339, u340, u341, u342, u343, u344, u345, u346, u347, u348, u349, u350, u351, u352, u353, u354, u355, u356, u357, u358, u359, u360, u361, u362, u363, u364, u365, u366, u367, u368, u369, u370, u371, u372, u373, u374, u375, u376, u377, u378, u379, u380, u381, u382, u383, u384, u385, u386, u387, u388, u389, u390, u391, u392, u393, u394, u395, u396, u397, u398, u399, u400, u401, u402, u403, u404, u405, u406, u407, u408, u409, u410, u411, u412, u413, u414, u415, u416, u417, u418, u419, u420, u421, u422, u423, u424, u425, u426, u427], []⟩ : Act) wr := by
  have hkk : k6 = 0 ∨ k6 = 1 ∨ k6 = 2 ∨ k6 = 3 ∨ k6 = 4 ∨ k6 = 5 := by omega
  have fin : ∀ {t2 : Int} {x2 : SentS} {Q : Act → World → Prop}, ResS.step ⟨x, now0, told⟩ (kd, mn, pl, tk) = ⟨x2, now, t2⟩ → ∀ {a : Act} {s : Code}, s.wp Try.prog (Exit.then (Out (fun a' => (a'.defers = [] ∧ a'.tmps.size = 428 ∧ a'.tmps[0]? = some (.int .u32 first) ∧ a'.tmps[12]? = some (.pointer (some ⟨pb, 0, none⟩)) ∧ a'.tmps[14]? = some (.pointer (some ⟨xb, 0, none⟩)) ∧ a'.tmps[15]? = some (.int .u64 now) ∧ a'.tmps[16]? = some (.int .i64 t2) ∧ a'.tmps[79]? = some (.slice A n c) ∧ a'.tmps[80]? = some (.int .i64 n) ∧ a'.tmps[81]? = some (.int .i64 i))) (fun w' => Did w w' pb xb first now (i + 1) x2)) Never) a wr →
      s.wp Try.prog (Exit.then (fun a' w' => ∃ t2, t2 = (ResS.step ⟨x, now0, told⟩ (kd, mn, pl, tk)).told ∧ Out (fun a' => (a'.defers = [] ∧ a'.tmps.size = 428 ∧ a'.tmps[0]? = some (.int .u32 first) ∧ a'.tmps[12]? = some (.pointer (some ⟨pb, 0, none⟩)) ∧ a'.tmps[14]? = some (.pointer (some ⟨xb, 0, none⟩)) ∧ a'.tmps[15]? = some (.int .u64 now) ∧ a'.tmps[16]? = some (.int .i64 t2) ∧ a'.tmps[79]? = some (.slice A n c) ∧ a'.tmps[80]? = some (.int .i64 n) ∧ a'.tmps[81]? = some (.int .i64 i))) (fun w' => Did w w' pb xb first now (i + 1) (ResS.step ⟨x, now0, told⟩ (kd, mn, pl, tk)).x) a' w') Never) a wr := by
    intro t2 x2 Q he a s hs
    refine wp_mono hs ?_
    intro e a' w' hq
    cases e with
    | normal => exact ⟨t2, by rw [he], by rw [he]; exact hq⟩
    | exit id => exact hq.elim
    | goto l => exact hq.elim
    | ret => exact hq.elim
    | panic ch => exact hq.elim
    | outgrown => exact hq.elim
  rcases hkk with rfl | rfl | rfl | rfl | rfl | rfl
  · have he : ResS.step ⟨x, now0, told⟩ (kd, mn, pl, tk) = ⟨x.write (manyOf mn pl) now, now, told⟩ := by
      simp only [ResS.step, ← hk6, ← hnow]; simp
    refine fin (Q := fun _ _ => True) he ?_
    by_cases hl : 16384 < x.fin - x.una + manyOf mn pl
    · exact kind_write_long0 h hk hp hi m0 m1 hl
    · exact kind_write_ok0 h hk hp hi m0 m1 hl
  · have he : ResS.step ⟨x, now0, told⟩ (kd, mn, pl, tk) = ⟨x.write (manyOf mn pl) now, now, told⟩ := by
      simp only [ResS.step, ← hk6, ← hnow]; simp
    refine fin (Q := fun _ _ => True) he ?_
    by_cases hl : 16384 < x.fin - x.una + manyOf mn pl
    · exact kind_write_long1 h hk hp hi m0 m1 hl
    · exact kind_write_ok1 h hk hp hi m0 m1 hl
  · cases hm : mayB mss
    · rw [hm] at hmay
      subst hmay
      have he : ResS.step ⟨x, now0, told⟩ (kd, mn, pl, tk) = ⟨x, now, told⟩ := by
        simp only [ResS.step, ← hk6, ← hnow, ← hmss, hm]; simp
      exact fin (Q := fun _ _ => True) he (kind_send_may h hk hp hi hm)
    · rw [hm] at hmay
      subst hmay
      have he : ResS.step ⟨x, now0, told⟩ (kd, mn, pl, tk) = ⟨x.send, now, told + (x.pieces mss).length⟩ := by
        simp only [ResS.step, ← hk6, ← hnow, ← hmss, hm]; simp
      exact fin (Q := fun _ _ => True) he (kind_send h hk hp hi hm ht0 ht1)
  · have he : ResS.step ⟨x, now0, told⟩ (kd, mn, pl, tk) = ⟨x.acked (ackOf x pl) (winOf mn) now, now, told⟩ := by
      simp only [ResS.step, ← hk6, ← hnow]; simp
    refine fin (Q := fun _ _ => True) he ?_
    by_cases hb : ackOf x pl < x.una ∨ x.nxt < ackOf x pl ∨ 1073741824 < winOf mn
    · exact kind_ack_bad h hk hp hi m0 m1 pl0 pl1 hb
    · exact kind_ack_ok h hk hp hi m0 m1 pl0 pl1 hb
  · cases hm : mayB mss
    · rw [hm] at hmay
      subst hmay
      have he : ResS.step ⟨x, now0, told⟩ (kd, mn, pl, tk) = ⟨x, now, told⟩ := by
        simp only [ResS.step, ← hk6, ← hnow, ← hmss, hm]; simp
      exact fin (Q := fun _ _ => True) he (kind_tick_may h hk hp hi hm)
    · rw [hm] at hmay
      subst hmay
      cases ht : x.ticks now
      · have he : ResS.step ⟨x, now0, told⟩ (kd, mn, pl, tk) = ⟨x, now, told⟩ := by
          simp only [ResS.step, ← hk6, ← hnow, ← hmss, hm, ht, SentS.tick_no ht]; simp
        refine fin (Q := fun _ _ => True) he ?_
        by_cases hz : x.set_ = false ∨ now < x.alarm
        · exact kind_tick_wait h hk hp hi hm hz
        · have hs : x.set_ = true := by cases hs : x.set_; exact absurd (.inl hs) hz; rfl
          have ha : x.alarm ≤ now := by omega
          have hc : x.count = x.tries := by
            unfold SentS.ticks at ht
            rw [hs, decide_eq_true ha] at ht
            simpa using ht
          exact kind_tick_full h hk hp hi hm hs ha hc
      · have he : ResS.step ⟨x, now0, told⟩ (kd, mn, pl, tk) = ⟨x.tick mss now, now, told + 1⟩ := by
          simp only [ResS.step, ← hk6, ← hnow, ← hmss, hm, ht]; simp
        exact fin (Q := fun _ _ => True) he (kind_tick_ok h hk hp hi hm ht ht0 ht1)
  · have he : ResS.step ⟨x, now0, told⟩ (kd, mn, pl, tk) = ⟨x, now, told⟩ := by
      simp only [ResS.step, ← hk6, ← hnow]; simp
    exact fin (Q := fun _ _ => True) he (kind_copy h hk hp hi)

theorem step_now (s : ResS) (a : Act4) : (s.step a).now = s.now + a.2.2.2 % 64 := by
  unfold ResS.step
  dsimp only
  split
  · rfl
  · split
    · split <;> rfl
    · split
      · rfl
      · split
        · split <;> rfl
        · rfl
theorem step_told (s : ResS) (a : Act4) (h : s.x.reach - s.x.nxt ≤ 16384) (hm : mayB (mssOf a.2.1 a.2.2.1) = true → 1 ≤ mssOf a.2.1 a.2.2.1) : s.told ≤ (s.step a).told ∧ (s.step a).told ≤ s.told + 16384 := by
  have hl : mayB (mssOf a.2.1 a.2.2.1) = true → ((s.x.pieces (mssOf a.2.1 a.2.2.1)).length : Int) ≤ 16384 := fun hmm => by
    have := cuts_length (mssOf a.2.1 a.2.2.1) (hm hmm) 16384 s.x.nxt s.x.reach
    unfold SentS.pieces
    omega
  unfold ResS.step
  dsimp only
  split
  · exact ⟨Int.le_refl _, by dsimp only; omega⟩
  · split
    · split
      · have := hl (by assumption); dsimp only; omega
      · exact ⟨Int.le_refl _, by dsimp only; omega⟩
    · split
      · exact ⟨Int.le_refl _, by dsimp only; omega⟩
      · split
        · split
          · dsimp only; split <;> omega
          · exact ⟨Int.le_refl _, by dsimp only; omega⟩
        · exact ⟨Int.le_refl _, by dsimp only; omega⟩
end

/-- Structs of four numbers, in a row. -/
def quadCells (k0 k1 k2 k3 : IntKind) : List Act4 → List Value
  | [] => []
  | a :: l => .int k0 a.1 :: .int k1 a.2.1 :: .int k2 a.2.2.1 :: .int k3 a.2.2.2 :: quadCells k0 k1 k2 k3 l
theorem quadCells_length (k0 k1 k2 k3 : IntKind) : ∀ l, (quadCells k0 k1 k2 k3 l).length = 4 * l.length
  | [] => rfl
  | a :: l => by simp [quadCells, quadCells_length k0 k1 k2 k3 l]; omega
theorem quadCells_get (k0 k1 k2 k3 : IntKind) : ∀ (l : List Act4) (i : Nat) (h : i < l.length), (quadCells k0 k1 k2 k3 l)[i * 4]? = some (.int k0 (l[i]).1) ∧ (quadCells k0 k1 k2 k3 l)[i * 4 + 1]? = some (.int k1 (l[i]).2.1) ∧ (quadCells k0 k1 k2 k3 l)[i * 4 + 2]? = some (.int k2 (l[i]).2.2.1) ∧ (quadCells k0 k1 k2 k3 l)[i * 4 + 3]? = some (.int k3 (l[i]).2.2.2)
  | a :: l, 0, _ => ⟨rfl, rfl, rfl, rfl⟩
  | a :: l, i + 1, h => by
    have := quadCells_get k0 k1 k2 k3 l i (by simpa using h)
    simp only [quadCells, show (i + 1) * 4 = i * 4 + 1 + 1 + 1 + 1 by omega, show i * 4 + 1 + 1 + 1 + 1 + 1 = (i * 4 + 1) + 1 + 1 + 1 + 1 by omega, show i * 4 + 1 + 1 + 1 + 1 + 2 = (i * 4 + 2) + 1 + 1 + 1 + 1 by omega, show i * 4 + 1 + 1 + 1 + 1 + 3 = (i * 4 + 3) + 1 + 1 + 1 + 1 by omega, List.getElem?_cons_succ, List.getElem_cons_succ]
    exact this

/-- Between two acts. -/
structure ResI (first : Int) (s0 : ResS) (A : Option Addr) (l : List Act4) (c : Nat) (w : World) (pb xb : Nat) (g : Nat) (a : Act) (wr : World) (i : Nat) (s : ResS) (q : BufS) : Prop where
  known : (a.defers = [] ∧ a.tmps.size = 428 ∧ a.tmps[0]? = some (.int .u32 first) ∧ a.tmps[12]? = some (.pointer (some ⟨pb, 0, none⟩)) ∧ a.tmps[14]? = some (.pointer (some ⟨xb, 0, none⟩)) ∧ a.tmps[15]? = some (.int .u64 s.now) ∧ a.tmps[16]? = some (.int .i64 s.told) ∧ a.tmps[79]? = some (.slice A l.length c) ∧ a.tmps[80]? = some (.int .i64 l.length) ∧ a.tmps[81]? = some (.int .i64 i))
  hgg : g = l.length - i
  hle : i ≤ l.length
  run : resRun s (l.drop i) = resRun s0 l
  st : St w wr pb xb q s.x
  keeps : Keeps first q s.x s.now i
  t0 : 0 ≤ s.told
  t1 : s.told ≤ 16384 * i
def ResJ (first : Int) (s0 : ResS) (A : Option Addr) (l : List Act4) (c : Nat) (w : World) (pb xb : Nat) (g : Nat) (a : Act) (wr : World) : Prop := ∃ i s q, ResI first s0 A l c w pb xb g a wr i s q

/-- The noter, at first. -/
def sent0 (win rto tries : Int) : SentS := ⟨0, 0, 0, win, rto, rto, 0, tries, 0, false⟩

set_option maxRecDepth 100000 in
set_option maxHeartbeats 4000000 in
theorem resent_ok (first win rto tries : Int) (A : Option Addr) (l : List Act4) (c : Nat) (w : World) (f0 : 0 ≤ first) (f1 : first < 4294967296) (w0 : 0 ≤ win) (w1' : win ≤ 1073741824) (r0 : 1 ≤ rto) (r1 : rto ≤ 1073741824) (t0 : 1 ≤ tries) (t1 : tries ≤ 10)
    (hl : Sl w A (quadCells .u8 .u8 .i16 .u16 l)) (hb : ∀ a ∈ l, 0 ≤ a.1 ∧ a.1 < 256 ∧ 0 ≤ a.2.1 ∧ a.2.1 < 256 ∧ -32768 ≤ a.2.2.1 ∧ a.2.2.1 ≤ 32767 ∧ 0 ≤ a.2.2.2 ∧ a.2.2.2 < 65536) (hll : l.length ≤ 60) (hc : l.length ≤ c) :
    Calls Try.prog 5 #[.int .u32 first, .int .i64 win, .int .u64 rto, .int .i64 tries, .slice A l.length c] w fun e w' => e = .returned (.tuple #[.int .i64 (resRun ⟨sent0 win rto tries, 0, 0⟩ l).told, .bool true]) ∧ Below w.heap.size w w' := by
  have e1 : IntKind.u32.wrap win = win := IntWalk.u32_in _ (by omega)
  have NW := Lib.hid (new_ok w first win rto tries r0 r1 t0 t1 w1')
  go_enter Try.func5, Try.ntmps5
  go_wp2_with (first
    | (go_at_call 6; go_loud ((with_reducible refine NW.out.mono ?_); rintro e w1 ⟨rfl, hq1, hs1, hb1⟩; have hszz := Lib.hid hs1; clear hs1)))
  have S0 : Hid (St w (w1.alloc (.cells #[.int .i64 0, .int .i64 0, .int .i64 0, .int .i64 win, .int .u64 rto, .int .u64 rto, .int .u64 0, .int .i64 tries, .int .i64 0, .bool false] 49)) w.heap.size w1.heap.size ⟨[], none, 0, first, 0, win, rto, tries, rto, 0, 0⟩ (sent0 win rto tries)) := Lib.hid (by
    have k : Below w1.heap.size w1 (w1.alloc (.cells #[.int .i64 0, .int .i64 0, .int .i64 0, .int .i64 win, .int .u64 rto, .int .u64 rto, .int .u64 0, .int .i64 tries, .int .i64 0, .bool false] 49)) := bel_alloc _
    have hs1 := hszz.out
    exact ⟨hq1.grow k, Blk.new w1 49 _, by omega, fun h => by simp at h, hb1.trans (k.mono (by omega)), Nat.le_refl _, by omega⟩)
  have K0 : Keeps first ⟨[], none, 0, first, 0, win, rto, tries, rto, 0, 0⟩ (sent0 win rto tries) 0 0 :=
    { f0 := f0, f1 := f1, u := (by show first = (first + 0) % 4294967296; omega), sent := rfl, data := rfl, window := rfl, rto := rfl, tries := rfl, wait := rfl, count := rfl, alarm := (fun h => absurd h (by simp [sent0])), al0 := (fun _ => rfl), set := (by simp [sent0]), p0 := (by simp [sent0]), p1 := (by simp [sent0]), p2 := (by simp [sent0]), p3 := (by simp [sent0]), p4 := (by simp [sent0]), w0 := w0, w1 := w1', r0 := r0, r1 := r1, t0 := t0, t1 := t1, c0 := (by simp [sent0]), c1 := (by simp [sent0]; omega), wt := (by simp [sent0]), n0 := (by simp), n1 := (by simp), a0 := (by simp), a1 := (by simp) }
  have HK0 := Lib.hid K0
  clear hq1 hb1 K0
  go_wp2_with (fail)
  generalize w1.alloc (.cells #[.int .i64 0, .int .i64 0, .int .i64 0, .int .i64 win, .int .u64 rto, .int .u64 rto, .int .u64 0, .int .i64 tries, .int .i64 0, .bool false] 49) = W at *
  generalize w1.heap.size = xb at *
  obtain ⟨pb, hpb⟩ : ∃ pb, w.heap.size = pb := ⟨_, rfl⟩
  rw [hpb]
  rw [hpb] at S0
  have Hpb := Lib.hid hpb
  clear hpb NW
  refine wp_loop_nxt (ResJ first ⟨sent0 win rto tries, 0, 0⟩ A l c w pb xb) l.length ?_ ?_
  · exact ⟨0, ⟨sent0 win rto tries, 0, 0⟩, _, { known := ⟨rfl, rfl, rfl, rfl, rfl, rfl, rfl, rfl, rfl, rfl⟩, hgg := rfl, hle := Nat.zero_le _, run := rfl, st := S0.out, keeps := HK0.out, t0 := Int.le_refl _, t1 := (by simp) }⟩
  · clear S0 HK0
    rintro g a0 wr ⟨i, s, q, q0, rfl, hil, hrun, hst, hk, ht0, ht1⟩
    obtain ⟨fd_, fs_, q_0, q_12, q_14, q_15, q_16, q_79, q_80, q_81⟩ := q0
    obtain ⟨ff0, rfl⟩ := frame_open fd_ fs_
    clear fd_ fs_
    rw [show ((List.range 428).map ff0).toArray = #[ff0 0, ff0 1, ff0 2, ff0 3, ff0 4, ff0 5, ff0 6, ff0 7, ff0 8, ff0 9, ff0 10, ff0 11, ff0 12, ff0 13, ff0 14, ff0 15, ff0 16, ff0 17, ff0 18, ff0 19, ff0 20, ff0 21, ff0 22, ff0 23, ff0 24, ff0 25, ff0 26, ff0 27, ff0 28, ff0 29, ff0 30, ff0 31, ff0 32, ff0 33, ff0 34, ff0 35, ff0 36, ff0 37, ff0 38, ff0 39, ff0 40, ff0 41, ff0 42, ff0 43, ff0 44, ff0 45, ff0 46, ff0 47, ff0 48, ff0 49, ff0 50, ff0 51, ff0 52, ff0 53, ff0 54, ff0 55, ff0 56, ff0 57, ff0 58, ff0 59, ff0 60, ff0 61, ff0 62, ff0 63, ff0 64, ff0 65, ff0 66, ff0 67, ff0 68, ff0 69, ff0 70, ff0 71, ff0 72, ff0 73, ff0 74, ff0 75, ff0 76, ff0 77, ff0 78, ff0 79, ff0 80, ff0 81, ff0 82, ff0 83, ff0 84, ff0 85, ff0 86, ff0 87, ff0 88, ff0 89, ff0 90, ff0 91, ff0 92, ff0 93, ff0 94, ff0 95, ff0 96, ff0 97, ff0 98, ff0 99, ff0 100, ff0 101, ff0 102, ff0 103, ff0 104, ff0 105, ff0 106, ff0 107, ff0 108, ff0 109, ff0 110, ff0 111, ff0 112, ff0 113, ff0 114, ff0 115, ff0 116, ff0 117, ff0 118, ff0 119, ff0 120, ff0 121, ff0 122, ff0 123, ff0 124, ff0 125, ff0 126, ff0 127, ff0 128, ff0 129, ff0 130, ff0 131, ff0 132, ff0 133, ff0 134, ff0 135, ff0 136, ff0 137, ff0 138, ff0 139, ff0 140, ff0 141, ff0 142, ff0 143, ff0 144, ff0 145, ff0 146, ff0 147, ff0 148, ff0 149, ff0 150, ff0 151, ff0 152, ff0 153, ff0 154, ff0 155, ff0 156, ff0 157, ff0 158, ff0 159, ff0 160, ff0 161, ff0 162, ff0 163, ff0 164, ff0 165, ff0 166, ff0 167, ff0 168, ff0 169, ff0 170, ff0 171, ff0 172, ff0 173, ff0 174, ff0 175, ff0 176, ff0 177, ff0 178, ff0 179, ff0 180, ff0 181, ff0 182, ff0 183, ff0 184, ff0 185, ff0 186, ff0 187, ff0 188, ff0 189, ff0 190, ff0 191, ff0 192, ff0 193, ff0 194, ff0 195, ff0 196, ff0 197, ff0 198, ff0 199, ff0 200, ff0 201, ff0 202, ff0 203, ff0 204, ff0 205, ff0 206, ff0 207, ff0 208, ff0 209, ff0 210, ff0 211, ff0 212, ff0 213, ff0 214, ff0 215, ff0 216, ff0 217, ff0 218, ff0 219, ff0 220, ff0 221, ff0 222, ff0 223, ff0 224, ff0 225, ff0 226, ff0 227, ff0 228, ff0 229, ff0 230, ff0 231, ff0 232, ff0 233, ff0 234, ff0 235, ff0 236, ff0 237, ff0 238, ff0 239, ff0 240, ff0 241, ff0 242, ff0 243, ff0 244, ff0 245, ff0 246, ff0 247, ff0 248, ff0 249, ff0 250, ff0 251, ff0 252, ff0 253, ff0 254, ff0 255, ff0 256, ff0 257, ff0 258, ff0 259, ff0 260, ff0 261, ff0 262, ff0 263, ff0 264, ff0 265, ff0 266, ff0 267, ff0 268, ff0 269, ff0 270, ff0 271, ff0 272, ff0 273, ff0 274, ff0 275, ff0 276, ff0 277, ff0 278, ff0 279, ff0 280, ff0 281, ff0 282, ff0 283, ff0 284, ff0 285, ff0 286, ff0 287, ff0 288, ff0 289, ff0 290, ff0 291, ff0 292, ff0 293, ff0 294, ff0 295, ff0 296, ff0 297, ff0 298, ff0 299, ff0 300, ff0 301, ff0 302, ff0 303, ff0 304, ff0 305, ff0 306, ff0 307, ff0 308, ff0 309, ff0 310, ff0 311, ff0 312, ff0 313, ff0 314, ff0 315, ff0 316, ff0 317, ff0 318, ff0 319, ff0 320, ff0 321, ff0 322, ff0 323, ff0 324, ff0 325, ff0 326, ff0 327, ff0 328, ff0 329, ff0 330, ff0 331, ff0 332, ff0 333, ff0 334, ff0 335, ff0 336, ff0 337, ff0 338, ff0 339, ff0 340, ff0 341, ff0 342, ff0 343, ff0 344, ff0 345, ff0 346, ff0 347, ff0 348, ff0 349, ff0 350, ff0 351, ff0 352, ff0 353, ff0 354, ff0 355, ff0 356, ff0 357, ff0 358, ff0 359, ff0 360, ff0 361, ff0 362, ff0 363, ff0 364, ff0 365, ff0 366, ff0 367, ff0 368, ff0 369, ff0 370, ff0 371, ff0 372, ff0 373, ff0 374, ff0 375, ff0 376, ff0 377, ff0 378, ff0 379, ff0 380, ff0 381, ff0 382, ff0 383, ff0 384, ff0 385, ff0 386, ff0 387, ff0 388, ff0 389, ff0 390, ff0 391, ff0 392, ff0 393, ff0 394, ff0 395, ff0 396, ff0 397, ff0 398, ff0 399, ff0 400, ff0 401, ff0 402, ff0 403, ff0 404, ff0 405, ff0 406, ff0 407, ff0 408, ff0 409, ff0 410, ff0 411, ff0 412, ff0 413, ff0 414, ff0 415, ff0 416, ff0 417, ff0 418, ff0 419, ff0 420, ff0 421, ff0 422, ff0 423, ff0 424, ff0 425, ff0 426, ff0 427] from rfl]
    rw [frame_get q_0, frame_get q_12, frame_get q_14, frame_get q_15, frame_get q_16, frame_get q_79, frame_get q_80, frame_get q_81]
    clear q_0 q_12 q_14 q_15 q_16 q_79 q_80 q_81
    by_cases hlt : i < l.length
    · obtain ⟨ab, ao, rfl, hcell⟩ := hl (by rw [quadCells_length]; omega)
      have hcs := quadCells_get .u8 .u8 .i16 .u16 l i hlt
      obtain ⟨b1, b2, b3, b4, b5, b6, b7, b8⟩ := hb l[i] (List.getElem_mem _)
      have c0 : wr.cell? ⟨ab, ao + i * 4, none⟩ = some (.int .u8 (l[i]).1) := (hst.bel.cell (cell_lt (hcell _ _ hcs.1))).trans (hcell _ _ hcs.1)
      have c1 : wr.cell? ⟨ab, ao + i * 4 + 1, none⟩ = some (.int .u8 (l[i]).2.1) := (hst.bel.cell (cell_lt (hcell _ _ hcs.2.1))).trans (hcell _ _ hcs.2.1)
      have c2 : wr.cell? ⟨ab, ao + i * 4 + 2, none⟩ = some (.int .i16 (l[i]).2.2.1) := (hst.bel.cell (cell_lt (hcell _ _ hcs.2.2.1))).trans (hcell _ _ hcs.2.2.1)
      have c3 : wr.cell? ⟨ab, ao + i * 4 + 3, none⟩ = some (.int .u16 (l[i]).2.2.2) := (hst.bel.cell (cell_lt (hcell _ _ hcs.2.2.2))).trans (hcell _ _ hcs.2.2.2)
      clear hcell hcs
      have hrun' : resRun (s.step l[i]) (l.drop (i + 1)) = resRun ⟨sent0 win rto tries, 0, 0⟩ l := by
        rw [← hrun, List.drop_eq_getElem_cons hlt]; rfl
      have hsn := step_now s l[i]
      have hst2 := step_told s l[i] (by unfold SentS.reach; have := hk.p1; have := hk.p2; have := hk.p3; omega) (fun hm => by unfold mayB at hm; simp at hm; exact hm.1)
      have Hrun := Lib.hid hrun'
      clear hrun hrun'
      generalize l[i] = a at *
      obtain ⟨kd, mn, pl, tk⟩ := a
      dsimp only at *
      have HL := Lib.hid hl
      clear hl hb
      have kk : Below wr.heap.size wr (wr.alloc (.cells #[.int .u8 kd, .int .u8 mn, .int .i16 pl, .int .u16 tk] 47)) := bel_alloc _
      have hlx := hst.note.lt
      have hlb := hst.buf.blk.lt
      have HA : Hid (Amid w (wr.alloc (.cells #[.int .u8 kd, .int .u8 mn, .int .i16 pl, .int .u16 tk] 47)) pb xb wr.heap.size q s.x kd mn pl tk) := Lib.hid ⟨hst.grow kk, Blk.new wr 47 _, by omega, by omega⟩
      have n0 := hk.n0
      have n1 := hk.n1
      have hp4 := hk.p4
      have HK := Lib.hid hk
      clear hst hk kk
      go_upto_region 11 with (fail)
      generalize wr.alloc (.cells #[.int .u8 kd, .int .u8 mn, .int .i16 pl, .int .u16 tk] 47) = W2 at *
      generalize wr.heap.size = bb at *
      clear c0 c1 c2 c3
      obtain ⟨now, hnow⟩ : ∃ now, now = s.now + tk % 64 := ⟨_, rfl⟩
      obtain ⟨mss, hmss⟩ : ∃ mss, mss = mssOf mn pl := ⟨_, rfl⟩
      obtain ⟨mayM, hmay⟩ : ∃ mayM, mayM = mayB mss := ⟨_, rfl⟩
      obtain ⟨k6, hk6⟩ : ∃ k6, k6 = kd % 6 := ⟨_, rfl⟩
      have HKL := Lib.hid (HK.out.later (tk % 64) (by omega) (by omega))
      rw [← hnow] at HKL hsn
      rename_i K hK
      refine wp_part (part_r11 HA.out n0 (by omega) b7 b8 hnow) ?_
      rintro a1 w1' ⟨q1, rfl⟩
      obtain ⟨fd_, fs_, q_0, q_12, q_14, q_15, q_16, q_18, q_79, q_80, q_81⟩ := q1
      obtain ⟨g1f, rfl⟩ := frame_open fd_ fs_
      clear fd_ fs_
      rw [show ((List.range 428).map g1f).toArray = #[g1f 0, g1f 1, g1f 2, g1f 3, g1f 4, g1f 5, g1f 6, g1f 7, g1f 8, g1f 9, g1f 10, g1f 11, g1f 12, g1f 13, g1f 14, g1f 15, g1f 16, g1f 17, g1f 18, g1f 19, g1f 20, g1f 21, g1f 22, g1f 23, g1f 24, g1f 25, g1f 26, g1f 27, g1f 28, g1f 29, g1f 30, g1f 31, g1f 32, g1f 33, g1f 34, g1f 35, g1f 36, g1f 37, g1f 38, g1f 39, g1f 40, g1f 41, g1f 42, g1f 43, g1f 44, g1f 45, g1f 46, g1f 47, g1f 48, g1f 49, g1f 50, g1f 51, g1f 52, g1f 53, g1f 54, g1f 55, g1f 56, g1f 57, g1f 58, g1f 59, g1f 60, g1f 61, g1f 62, g1f 63, g1f 64, g1f 65, g1f 66, g1f 67, g1f 68, g1f 69, g1f 70, g1f 71, g1f 72, g1f 73, g1f 74, g1f 75, g1f 76, g1f 77, g1f 78, g1f 79, g1f 80, g1f 81, g1f 82, g1f 83, g1f 84, g1f 85, g1f 86, g1f 87, g1f 88, g1f 89, g1f 90, g1f 91, g1f 92, g1f 93, g1f 94, g1f 95, g1f 96, g1f 97, g1f 98, g1f 99, g1f 100, g1f 101, g1f 102, g1f 103, g1f 104, g1f 105, g1f 106, g1f 107, g1f 108, g1f 109, g1f 110, g1f 111, g1f 112, g1f 113, g1f 114, g1f 115, g1f 116, g1f 117, g1f 118, g1f 119, g1f 120, g1f 121, g1f 122, g1f 123, g1f 124, g1f 125, g1f 126, g1f 127, g1f 128, g1f 129, g1f 130, g1f 131, g1f 132, g1f 133, g1f 134, g1f 135, g1f 136, g1f 137, g1f 138, g1f 139, g1f 140, g1f 141, g1f 142, g1f 143, g1f 144, g1f 145, g1f 146, g1f 147, g1f 148, g1f 149, g1f 150, g1f 151, g1f 152, g1f 153, g1f 154, g1f 155, g1f 156, g1f 157, g1f 158, g1f 159, g1f 160, g1f 161, g1f 162, g1f 163, g1f 164, g1f 165, g1f 166, g1f 167, g1f 168, g1f 169, g1f 170, g1f 171, g1f 172, g1f 173, g1f 174, g1f 175, g1f 176, g1f 177, g1f 178, g1f 179, g1f 180, g1f 181, g1f 182, g1f 183, g1f 184, g1f 185, g1f 186, g1f 187, g1f 188, g1f 189, g1f 190, g1f 191, g1f 192, g1f 193, g1f 194, g1f 195, g1f 196, g1f 197, g1f 198, g1f 199, g1f 200, g1f 201, g1f 202, g1f 203, g1f 204, g1f 205, g1f 206, g1f 207, g1f 208, g1f 209, g1f 210, g1f 211, g1f 212, g1f 213, g1f 214, g1f 215, g1f 216, g1f 217, g1f 218, g1f 219, g1f 220, g1f 221, g1f 222, g1f 223, g1f 224, g1f 225, g1f 226, g1f 227, g1f 228, g1f 229, g1f 230, g1f 231, g1f 232, g1f 233, g1f 234, g1f 235, g1f 236, g1f 237, g1f 238, g1f 239, g1f 240, g1f 241, g1f 242, g1f 243, g1f 244, g1f 245, g1f 246, g1f 247, g1f 248, g1f 249, g1f 250, g1f 251, g1f 252, g1f 253, g1f 254, g1f 255, g1f 256, g1f 257, g1f 258, g1f 259, g1f 260, g1f 261, g1f 262, g1f 263, g1f 264, g1f 265, g1f 266, g1f 267, g1f 268, g1f 269, g1f 270, g1f 271, g1f 272, g1f 273, g1f 274, g1f 275, g1f 276, g1f 277, g1f 278, g1f 279, g1f 280, g1f 281, g1f 282, g1f 283, g1f 284, g1f 285, g1f 286, g1f 287, g1f 288, g1f 289, g1f 290, g1f 291, g1f 292, g1f 293, g1f 294, g1f 295, g1f 296, g1f 297, g1f 298, g1f 299, g1f 300, g1f 301, g1f 302, g1f 303, g1f 304, g1f 305, g1f 306, g1f 307, g1f 308, g1f 309, g1f 310, g1f 311, g1f 312, g1f 313, g1f 314, g1f 315, g1f 316, g1f 317, g1f 318, g1f 319, g1f 320, g1f 321, g1f 322, g1f 323, g1f 324, g1f 325, g1f 326, g1f 327, g1f 328, g1f 329, g1f 330, g1f 331, g1f 332, g1f 333, g1f 334, g1f 335, g1f 336, g1f 337, g1f 338, g1f 339, g1f 340, g1f 341, g1f 342, g1f 343, g1f 344, g1f 345, g1f 346, g1f 347, g1f 348, g1f 349, g1f 350, g1f 351, g1f 352, g1f 353, g1f 354, g1f 355, g1f 356, g1f 357, g1f 358, g1f 359, g1f 360, g1f 361, g1f 362, g1f 363, g1f 364, g1f 365, g1f 366, g1f 367, g1f 368, g1f 369, g1f 370, g1f 371, g1f 372, g1f 373, g1f 374, g1f 375, g1f 376, g1f 377, g1f 378, g1f 379, g1f 380, g1f 381, g1f 382, g1f 383, g1f 384, g1f 385, g1f 386, g1f 387, g1f 388, g1f 389, g1f 390, g1f 391, g1f 392, g1f 393, g1f 394, g1f 395, g1f 396, g1f 397, g1f 398, g1f 399, g1f 400, g1f 401, g1f 402, g1f 403, g1f 404, g1f 405, g1f 406, g1f 407, g1f 408, g1f 409, g1f 410, g1f 411, g1f 412, g1f 413, g1f 414, g1f 415, g1f 416, g1f 417, g1f 418, g1f 419, g1f 420, g1f 421, g1f 422, g1f 423, g1f 424, g1f 425, g1f 426, g1f 427] from rfl]
      rw [frame_get q_0, frame_get q_12, frame_get q_14, frame_get q_15, frame_get q_16, frame_get q_18, frame_get q_79, frame_get q_80, frame_get q_81]
      clear q_0 q_12 q_14 q_15 q_16 q_18 q_79 q_80 q_81
      refine hK _ _ ?_
      clear hK K
      refine wp_seq_k (fun K hK => ?_)
      refine wp_part (part_r12 HA.out b3 b4 b5 b6 hmss) ?_
      rintro a2 w2' ⟨q2, rfl⟩
      obtain ⟨fd_, fs_, q_0, q_12, q_14, q_15, q_16, q_18, q_19, q_79, q_80, q_81⟩ := q2
      obtain ⟨g2f, rfl⟩ := frame_open fd_ fs_
      clear fd_ fs_
      rw [show ((List.range 428).map g2f).toArray = #[g2f 0, g2f 1, g2f 2, g2f 3, g2f 4, g2f 5, g2f 6, g2f 7, g2f 8, g2f 9, g2f 10, g2f 11, g2f 12, g2f 13, g2f 14, g2f 15, g2f 16, g2f 17, g2f 18, g2f 19, g2f 20, g2f 21, g2f 22, g2f 23, g2f 24, g2f 25, g2f 26, g2f 27, g2f 28, g2f 29, g2f 30, g2f 31, g2f 32, g2f 33, g2f 34, g2f 35, g2f 36, g2f 37, g2f 38, g2f 39, g2f 40, g2f 41, g2f 42, g2f 43, g2f 44, g2f 45, g2f 46, g2f 47, g2f 48, g2f 49, g2f 50, g2f 51, g2f 52, g2f 53, g2f 54, g2f 55, g2f 56, g2f 57, g2f 58, g2f 59, g2f 60, g2f 61, g2f 62, g2f 63, g2f 64, g2f 65, g2f 66, g2f 67, g2f 68, g2f 69, g2f 70, g2f 71, g2f 72, g2f 73, g2f 74, g2f 75, g2f 76, g2f 77, g2f 78, g2f 79, g2f 80, g2f 81, g2f 82, g2f 83, g2f 84, g2f 85, g2f 86, g2f 87, g2f 88, g2f 89, g2f 90, g2f 91, g2f 92, g2f 93, g2f 94, g2f 95, g2f 96, g2f 97, g2f 98, g2f 99, g2f 100, g2f 101, g2f 102, g2f 103, g2f 104, g2f 105, g2f 106, g2f 107, g2f 108, g2f 109, g2f 110, g2f 111, g2f 112, g2f 113, g2f 114, g2f 115, g2f 116, g2f 117, g2f 118, g2f 119, g2f 120, g2f 121, g2f 122, g2f 123, g2f 124, g2f 125, g2f 126, g2f 127, g2f 128, g2f 129, g2f 130, g2f 131, g2f 132, g2f 133, g2f 134, g2f 135, g2f 136, g2f 137, g2f 138, g2f 139, g2f 140, g2f 141, g2f 142, g2f 143, g2f 144, g2f 145, g2f 146, g2f 147, g2f 148, g2f 149, g2f 150, g2f 151, g2f 152, g2f 153, g2f 154, g2f 155, g2f 156, g2f 157, g2f 158, g2f 159, g2f 160, g2f 161, g2f 162, g2f 163, g2f 164, g2f 165, g2f 166, g2f 167, g2f 168, g2f 169, g2f 170, g2f 171, g2f 172, g2f 173, g2f 174, g2f 175, g2f 176, g2f 177, g2f 178, g2f 179, g2f 180, g2f 181, g2f 182, g2f 183, g2f 184, g2f 185, g2f 186, g2f 187, g2f 188, g2f 189, g2f 190, g2f 191, g2f 192, g2f 193, g2f 194, g2f 195, g2f 196, g2f 197, g2f 198, g2f 199, g2f 200, g2f 201, g2f 202, g2f 203, g2f 204, g2f 205, g2f 206, g2f 207, g2f 208, g2f 209, g2f 210, g2f 211, g2f 212, g2f 213, g2f 214, g2f 215, g2f 216, g2f 217, g2f 218, g2f 219, g2f 220, g2f 221, g2f 222, g2f 223, g2f 224, g2f 225, g2f 226, g2f 227, g2f 228, g2f 229, g2f 230, g2f 231, g2f 232, g2f 233, g2f 234, g2f 235, g2f 236, g2f 237, g2f 238, g2f 239, g2f 240, g2f 241, g2f 242, g2f 243, g2f 244, g2f 245, g2f 246, g2f 247, g2f 248, g2f 249, g2f 250, g2f 251, g2f 252, g2f 253, g2f 254, g2f 255, g2f 256, g2f 257, g2f 258, g2f 259, g2f 260, g2f 261, g2f 262, g2f 263, g2f 264, g2f 265, g2f 266, g2f 267, g2f 268, g2f 269, g2f 270, g2f 271, g2f 272, g2f 273, g2f 274, g2f 275, g2f 276, g2f 277, g2f 278, g2f 279, g2f 280, g2f 281, g2f 282, g2f 283, g2f 284, g2f 285, g2f 286, g2f 287, g2f 288, g2f 289, g2f 290, g2f 291, g2f 292, g2f 293, g2f 294, g2f 295, g2f 296, g2f 297, g2f 298, g2f 299, g2f 300, g2f 301, g2f 302, g2f 303, g2f 304, g2f 305, g2f 306, g2f 307, g2f 308, g2f 309, g2f 310, g2f 311, g2f 312, g2f 313, g2f 314, g2f 315, g2f 316, g2f 317, g2f 318, g2f 319, g2f 320, g2f 321, g2f 322, g2f 323, g2f 324, g2f 325, g2f 326, g2f 327, g2f 328, g2f 329, g2f 330, g2f 331, g2f 332, g2f 333, g2f 334, g2f 335, g2f 336, g2f 337, g2f 338, g2f 339, g2f 340, g2f 341, g2f 342, g2f 343, g2f 344, g2f 345, g2f 346, g2f 347, g2f 348, g2f 349, g2f 350, g2f 351, g2f 352, g2f 353, g2f 354, g2f 355, g2f 356, g2f 357, g2f 358, g2f 359, g2f 360, g2f 361, g2f 362, g2f 363, g2f 364, g2f 365, g2f 366, g2f 367, g2f 368, g2f 369, g2f 370, g2f 371, g2f 372, g2f 373, g2f 374, g2f 375, g2f 376, g2f 377, g2f 378, g2f 379, g2f 380, g2f 381, g2f 382, g2f 383, g2f 384, g2f 385, g2f 386, g2f 387, g2f 388, g2f 389, g2f 390, g2f 391, g2f 392, g2f 393, g2f 394, g2f 395, g2f 396, g2f 397, g2f 398, g2f 399, g2f 400, g2f 401, g2f 402, g2f 403, g2f 404, g2f 405, g2f 406, g2f 407, g2f 408, g2f 409, g2f 410, g2f 411, g2f 412, g2f 413, g2f 414, g2f 415, g2f 416, g2f 417, g2f 418, g2f 419, g2f 420, g2f 421, g2f 422, g2f 423, g2f 424, g2f 425, g2f 426, g2f 427] from rfl]
      rw [frame_get q_0, frame_get q_12, frame_get q_14, frame_get q_15, frame_get q_16, frame_get q_18, frame_get q_19, frame_get q_79, frame_get q_80, frame_get q_81]
      clear q_0 q_12 q_14 q_15 q_16 q_18 q_19 q_79 q_80 q_81
      refine hK _ _ ?_
      clear hK K
      refine wp_seq_k (fun K hK => ?_)
      refine wp_part (part_r13 hmay) ?_
      rintro a3 w3' ⟨q3, rfl⟩
      obtain ⟨fd_, fs_, q_0, q_12, q_14, q_15, q_16, q_18, q_19, q_20, q_79, q_80, q_81⟩ := q3
      obtain ⟨g3f, rfl⟩ := frame_open fd_ fs_
      clear fd_ fs_
      rw [show ((List.range 428).map g3f).toArray = #[g3f 0, g3f 1, g3f 2, g3f 3, g3f 4, g3f 5, g3f 6, g3f 7, g3f 8, g3f 9, g3f 10, g3f 11, g3f 12, g3f 13, g3f 14, g3f 15, g3f 16, g3f 17, g3f 18, g3f 19, g3f 20, g3f 21, g3f 22, g3f 23, g3f 24, g3f 25, g3f 26, g3f 27, g3f 28, g3f 29, g3f 30, g3f 31, g3f 32, g3f 33, g3f 34, g3f 35, g3f 36, g3f 37, g3f 38, g3f 39, g3f 40, g3f 41, g3f 42, g3f 43, g3f 44, g3f 45, g3f 46, g3f 47, g3f 48, g3f 49, g3f 50, g3f 51, g3f 52, g3f 53, g3f 54, g3f 55, g3f 56, g3f 57, g3f 58, g3f 59, g3f 60, g3f 61, g3f 62, g3f 63, g3f 64, g3f 65, g3f 66, g3f 67, g3f 68, g3f 69, g3f 70, g3f 71, g3f 72, g3f 73, g3f 74, g3f 75, g3f 76, g3f 77, g3f 78, g3f 79, g3f 80, g3f 81, g3f 82, g3f 83, g3f 84, g3f 85, g3f 86, g3f 87, g3f 88, g3f 89, g3f 90, g3f 91, g3f 92, g3f 93, g3f 94, g3f 95, g3f 96, g3f 97, g3f 98, g3f 99, g3f 100, g3f 101, g3f 102, g3f 103, g3f 104, g3f 105, g3f 106, g3f 107, g3f 108, g3f 109, g3f 110, g3f 111, g3f 112, g3f 113, g3f 114, g3f 115, g3f 116, g3f 117, g3f 118, g3f 119, g3f 120, g3f 121, g3f 122, g3f 123, g3f 124, g3f 125, g3f 126, g3f 127, g3f 128, g3f 129, g3f 130, g3f 131, g3f 132, g3f 133, g3f 134, g3f 135, g3f 136, g3f 137, g3f 138, g3f 139, g3f 140, g3f 141, g3f 142, g3f 143, g3f 144, g3f 145, g3f 146, g3f 147, g3f 148, g3f 149, g3f 150, g3f 151, g3f 152, g3f 153, g3f 154, g3f 155, g3f 156, g3f 157, g3f 158, g3f 159, g3f 160, g3f 161, g3f 162, g3f 163, g3f 164, g3f 165, g3f 166, g3f 167, g3f 168, g3f 169, g3f 170, g3f 171, g3f 172, g3f 173, g3f 174, g3f 175, g3f 176, g3f 177, g3f 178, g3f 179, g3f 180, g3f 181, g3f 182, g3f 183, g3f 184, g3f 185, g3f 186, g3f 187, g3f 188, g3f 189, g3f 190, g3f 191, g3f 192, g3f 193, g3f 194, g3f 195, g3f 196, g3f 197, g3f 198, g3f 199, g3f 200, g3f 201, g3f 202, g3f 203, g3f 204, g3f 205, g3f 206, g3f 207, g3f 208, g3f 209, g3f 210, g3f 211, g3f 212, g3f 213, g3f 214, g3f 215, g3f 216, g3f 217, g3f 218, g3f 219, g3f 220, g3f 221, g3f 222, g3f 223, g3f 224, g3f 225, g3f 226, g3f 227, g3f 228, g3f 229, g3f 230, g3f 231, g3f 232, g3f 233, g3f 234, g3f 235, g3f 236, g3f 237, g3f 238, g3f 239, g3f 240, g3f 241, g3f 242, g3f 243, g3f 244, g3f 245, g3f 246, g3f 247, g3f 248, g3f 249, g3f 250, g3f 251, g3f 252, g3f 253, g3f 254, g3f 255, g3f 256, g3f 257, g3f 258, g3f 259, g3f 260, g3f 261, g3f 262, g3f 263, g3f 264, g3f 265, g3f 266, g3f 267, g3f 268, g3f 269, g3f 270, g3f 271, g3f 272, g3f 273, g3f 274, g3f 275, g3f 276, g3f 277, g3f 278, g3f 279, g3f 280, g3f 281, g3f 282, g3f 283, g3f 284, g3f 285, g3f 286, g3f 287, g3f 288, g3f 289, g3f 290, g3f 291, g3f 292, g3f 293, g3f 294, g3f 295, g3f 296, g3f 297, g3f 298, g3f 299, g3f 300, g3f 301, g3f 302, g3f 303, g3f 304, g3f 305, g3f 306, g3f 307, g3f 308, g3f 309, g3f 310, g3f 311, g3f 312, g3f 313, g3f 314, g3f 315, g3f 316, g3f 317, g3f 318, g3f 319, g3f 320, g3f 321, g3f 322, g3f 323, g3f 324, g3f 325, g3f 326, g3f 327, g3f 328, g3f 329, g3f 330, g3f 331, g3f 332, g3f 333, g3f 334, g3f 335, g3f 336, g3f 337, g3f 338, g3f 339, g3f 340, g3f 341, g3f 342, g3f 343, g3f 344, g3f 345, g3f 346, g3f 347, g3f 348, g3f 349, g3f 350, g3f 351, g3f 352, g3f 353, g3f 354, g3f 355, g3f 356, g3f 357, g3f 358, g3f 359, g3f 360, g3f 361, g3f 362, g3f 363, g3f 364, g3f 365, g3f 366, g3f 367, g3f 368, g3f 369, g3f 370, g3f 371, g3f 372, g3f 373, g3f 374, g3f 375, g3f 376, g3f 377, g3f 378, g3f 379, g3f 380, g3f 381, g3f 382, g3f 383, g3f 384, g3f 385, g3f 386, g3f 387, g3f 388, g3f 389, g3f 390, g3f 391, g3f 392, g3f 393, g3f 394, g3f 395, g3f 396, g3f 397, g3f 398, g3f 399, g3f 400, g3f 401, g3f 402, g3f 403, g3f 404, g3f 405, g3f 406, g3f 407, g3f 408, g3f 409, g3f 410, g3f 411, g3f 412, g3f 413, g3f 414, g3f 415, g3f 416, g3f 417, g3f 418, g3f 419, g3f 420, g3f 421, g3f 422, g3f 423, g3f 424, g3f 425, g3f 426, g3f 427] from rfl]
      rw [frame_get q_0, frame_get q_12, frame_get q_14, frame_get q_15, frame_get q_16, frame_get q_18, frame_get q_19, frame_get q_20, frame_get q_79, frame_get q_80, frame_get q_81]
      clear q_0 q_12 q_14 q_15 q_16 q_18 q_19 q_20 q_79 q_80 q_81
      refine hK _ _ ?_
      clear hK K
      refine wp_seq_k (fun K hK => ?_)
      refine wp_seq_k (fun K2 hK2 => ?_)
      refine wp_part (part_r14 HA.out b1 b2 hk6) ?_
      rintro a4 w4' ⟨q4, rfl⟩
      obtain ⟨fd_, fs_, q_0, q_12, q_14, q_15, q_16, q_18, q_19, q_20, q_79, q_80, q_81, q_110⟩ := q4
      obtain ⟨g4f, rfl⟩ := frame_open fd_ fs_
      clear fd_ fs_
      rw [show ((List.range 428).map g4f).toArray = #[g4f 0, g4f 1, g4f 2, g4f 3, g4f 4, g4f 5, g4f 6, g4f 7, g4f 8, g4f 9, g4f 10, g4f 11, g4f 12, g4f 13, g4f 14, g4f 15, g4f 16, g4f 17, g4f 18, g4f 19, g4f 20, g4f 21, g4f 22, g4f 23, g4f 24, g4f 25, g4f 26, g4f 27, g4f 28, g4f 29, g4f 30, g4f 31, g4f 32, g4f 33, g4f 34, g4f 35, g4f 36, g4f 37, g4f 38, g4f 39, g4f 40, g4f 41, g4f 42, g4f 43, g4f 44, g4f 45, g4f 46, g4f 47, g4f 48, g4f 49, g4f 50, g4f 51, g4f 52, g4f 53, g4f 54, g4f 55, g4f 56, g4f 57, g4f 58, g4f 59, g4f 60, g4f 61, g4f 62, g4f 63, g4f 64, g4f 65, g4f 66, g4f 67, g4f 68, g4f 69, g4f 70, g4f 71, g4f 72, g4f 73, g4f 74, g4f 75, g4f 76, g4f 77, g4f 78, g4f 79, g4f 80, g4f 81, g4f 82, g4f 83, g4f 84, g4f 85, g4f 86, g4f 87, g4f 88, g4f 89, g4f 90, g4f 91, g4f 92, g4f 93, g4f 94, g4f 95, g4f 96, g4f 97, g4f 98, g4f 99, g4f 100, g4f 101, g4f 102, g4f 103, g4f 104, g4f 105, g4f 106, g4f 107, g4f 108, g4f 109, g4f 110, g4f 111, g4f 112, g4f 113, g4f 114, g4f 115, g4f 116, g4f 117, g4f 118, g4f 119, g4f 120, g4f 121, g4f 122, g4f 123, g4f 124, g4f 125, g4f 126, g4f 127, g4f 128, g4f 129, g4f 130, g4f 131, g4f 132, g4f 133, g4f 134, g4f 135, g4f 136, g4f 137, g4f 138, g4f 139, g4f 140, g4f 141, g4f 142, g4f 143, g4f 144, g4f 145, g4f 146, g4f 147, g4f 148, g4f 149, g4f 150, g4f 151, g4f 152, g4f 153, g4f 154, g4f 155, g4f 156, g4f 157, g4f 158, g4f 159, g4f 160, g4f 161, g4f 162, g4f 163, g4f 164, g4f 165, g4f 166, g4f 167, g4f 168, g4f 169, g4f 170, g4f 171, g4f 172, g4f 173, g4f 174, g4f 175, g4f 176, g4f 177, g4f 178, g4f 179, g4f 180, g4f 181, g4f 182, g4f 183, g4f 184, g4f 185, g4f 186, g4f 187, g4f 188, g4f 189, g4f 190, g4f 191, g4f 192, g4f 193, g4f 194, g4f 195, g4f 196, g4f 197, g4f 198, g4f 199, g4f 200, g4f 201, g4f 202, g4f 203, g4f 204, g4f 205, g4f 206, g4f 207, g4f 208, g4f 209, g4f 210, g4f 211, g4f 212, g4f 213, g4f 214, g4f 215, g4f 216, g4f 217, g4f 218, g4f 219, g4f 220, g4f 221, g4f 222, g4f 223, g4f 224, g4f 225, g4f 226, g4f 227, g4f 228, g4f 229, g4f 230, g4f 231, g4f 232, g4f 233, g4f 234, g4f 235, g4f 236, g4f 237, g4f 238, g4f 239, g4f 240, g4f 241, g4f 242, g4f 243, g4f 244, g4f 245, g4f 246, g4f 247, g4f 248, g4f 249, g4f 250, g4f 251, g4f 252, g4f 253, g4f 254, g4f 255, g4f 256, g4f 257, g4f 258, g4f 259, g4f 260, g4f 261, g4f 262, g4f 263, g4f 264, g4f 265, g4f 266, g4f 267, g4f 268, g4f 269, g4f 270, g4f 271, g4f 272, g4f 273, g4f 274, g4f 275, g4f 276, g4f 277, g4f 278, g4f 279, g4f 280, g4f 281, g4f 282, g4f 283, g4f 284, g4f 285, g4f 286, g4f 287, g4f 288, g4f 289, g4f 290, g4f 291, g4f 292, g4f 293, g4f 294, g4f 295, g4f 296, g4f 297, g4f 298, g4f 299, g4f 300, g4f 301, g4f 302, g4f 303, g4f 304, g4f 305, g4f 306, g4f 307, g4f 308, g4f 309, g4f 310, g4f 311, g4f 312, g4f 313, g4f 314, g4f 315, g4f 316, g4f 317, g4f 318, g4f 319, g4f 320, g4f 321, g4f 322, g4f 323, g4f 324, g4f 325, g4f 326, g4f 327, g4f 328, g4f 329, g4f 330, g4f 331, g4f 332, g4f 333, g4f 334, g4f 335, g4f 336, g4f 337, g4f 338, g4f 339, g4f 340, g4f 341, g4f 342, g4f 343, g4f 344, g4f 345, g4f 346, g4f 347, g4f 348, g4f 349, g4f 350, g4f 351, g4f 352, g4f 353, g4f 354, g4f 355, g4f 356, g4f 357, g4f 358, g4f 359, g4f 360, g4f 361, g4f 362, g4f 363, g4f 364, g4f 365, g4f 366, g4f 367, g4f 368, g4f 369, g4f 370, g4f 371, g4f 372, g4f 373, g4f 374, g4f 375, g4f 376, g4f 377, g4f 378, g4f 379, g4f 380, g4f 381, g4f 382, g4f 383, g4f 384, g4f 385, g4f 386, g4f 387, g4f 388, g4f 389, g4f 390, g4f 391, g4f 392, g4f 393, g4f 394, g4f 395, g4f 396, g4f 397, g4f 398, g4f 399, g4f 400, g4f 401, g4f 402, g4f 403, g4f 404, g4f 405, g4f 406, g4f 407, g4f 408, g4f 409, g4f 410, g4f 411, g4f 412, g4f 413, g4f 414, g4f 415, g4f 416, g4f 417, g4f 418, g4f 419, g4f 420, g4f 421, g4f 422, g4f 423, g4f 424, g4f 425, g4f 426, g4f 427] from rfl]
      rw [frame_get q_0, frame_get q_12, frame_get q_14, frame_get q_15, frame_get q_16, frame_get q_18, frame_get q_19, frame_get q_20, frame_get q_79, frame_get q_80, frame_get q_81, frame_get q_110]
      clear q_0 q_12 q_14 q_15 q_16 q_18 q_19 q_20 q_79 q_80 q_81 q_110
      refine hK2 _ _ ?_
      clear hK2 K2
      refine wp_part (step_kind HA.out HKL.out hp4 (by omega) b1 b2 b3 b4 b5 b6 hk6 hmss hmay hnow ht0 (by omega)) ?_
      rintro a5 w5 ⟨t2, ht2, q5, q', hst5, hk5⟩
      obtain ⟨fd_, fs_, q_0, q_12, q_14, q_15, q_16, q_79, q_80, q_81⟩ := q5
      obtain ⟨g5f, rfl⟩ := frame_open fd_ fs_
      clear fd_ fs_
      rw [show ((List.range 428).map g5f).toArray = #[g5f 0, g5f 1, g5f 2, g5f 3, g5f 4, g5f 5, g5f 6, g5f 7, g5f 8, g5f 9, g5f 10, g5f 11, g5f 12, g5f 13, g5f 14, g5f 15, g5f 16, g5f 17, g5f 18, g5f 19, g5f 20, g5f 21, g5f 22, g5f 23, g5f 24, g5f 25, g5f 26, g5f 27, g5f 28, g5f 29, g5f 30, g5f 31, g5f 32, g5f 33, g5f 34, g5f 35, g5f 36, g5f 37, g5f 38, g5f 39, g5f 40, g5f 41, g5f 42, g5f 43, g5f 44, g5f 45, g5f 46, g5f 47, g5f 48, g5f 49, g5f 50, g5f 51, g5f 52, g5f 53, g5f 54, g5f 55, g5f 56, g5f 57, g5f 58, g5f 59, g5f 60, g5f 61, g5f 62, g5f 63, g5f 64, g5f 65, g5f 66, g5f 67, g5f 68, g5f 69, g5f 70, g5f 71, g5f 72, g5f 73, g5f 74, g5f 75, g5f 76, g5f 77, g5f 78, g5f 79, g5f 80, g5f 81, g5f 82, g5f 83, g5f 84, g5f 85, g5f 86, g5f 87, g5f 88, g5f 89, g5f 90, g5f 91, g5f 92, g5f 93, g5f 94, g5f 95, g5f 96, g5f 97, g5f 98, g5f 99, g5f 100, g5f 101, g5f 102, g5f 103, g5f 104, g5f 105, g5f 106, g5f 107, g5f 108, g5f 109, g5f 110, g5f 111, g5f 112, g5f 113, g5f 114, g5f 115, g5f 116, g5f 117, g5f 118, g5f 119, g5f 120, g5f 121, g5f 122, g5f 123, g5f 124, g5f 125, g5f 126, g5f 127, g5f 128, g5f 129, g5f 130, g5f 131, g5f 132, g5f 133, g5f 134, g5f 135, g5f 136, g5f 137, g5f 138, g5f 139, g5f 140, g5f 141, g5f 142, g5f 143, g5f 144, g5f 145, g5f 146, g5f 147, g5f 148, g5f 149, g5f 150, g5f 151, g5f 152, g5f 153, g5f 154, g5f 155, g5f 156, g5f 157, g5f 158, g5f 159, g5f 160, g5f 161, g5f 162, g5f 163, g5f 164, g5f 165, g5f 166, g5f 167, g5f 168, g5f 169, g5f 170, g5f 171, g5f 172, g5f 173, g5f 174, g5f 175, g5f 176, g5f 177, g5f 178, g5f 179, g5f 180, g5f 181, g5f 182, g5f 183, g5f 184, g5f 185, g5f 186, g5f 187, g5f 188, g5f 189, g5f 190, g5f 191, g5f 192, g5f 193, g5f 194, g5f 195, g5f 196, g5f 197, g5f 198, g5f 199, g5f 200, g5f 201, g5f 202, g5f 203, g5f 204, g5f 205, g5f 206, g5f 207, g5f 208, g5f 209, g5f 210, g5f 211, g5f 212, g5f 213, g5f 214, g5f 215, g5f 216, g5f 217, g5f 218, g5f 219, g5f 220, g5f 221, g5f 222, g5f 223, g5f 224, g5f 225, g5f 226, g5f 227, g5f 228, g5f 229, g5f 230, g5f 231, g5f 232, g5f 233, g5f 234, g5f 235, g5f 236, g5f 237, g5f 238, g5f 239, g5f 240, g5f 241, g5f 242, g5f 243, g5f 244, g5f 245, g5f 246, g5f 247, g5f 248, g5f 249, g5f 250, g5f 251, g5f 252, g5f 253, g5f 254, g5f 255, g5f 256, g5f 257, g5f 258, g5f 259, g5f 260, g5f 261, g5f 262, g5f 263, g5f 264, g5f 265, g5f 266, g5f 267, g5f 268, g5f 269, g5f 270, g5f 271, g5f 272, g5f 273, g5f 274, g5f 275, g5f 276, g5f 277, g5f 278, g5f 279, g5f 280, g5f 281, g5f 282, g5f 283, g5f 284, g5f 285, g5f 286, g5f 287, g5f 288, g5f 289, g5f 290, g5f 291, g5f 292, g5f 293, g5f 294, g5f 295, g5f 296, g5f 297, g5f 298, g5f 299, g5f 300, g5f 301, g5f 302, g5f 303, g5f 304, g5f 305, g5f 306, g5f 307, g5f 308, g5f 309, g5f 310, g5f 311, g5f 312, g5f 313, g5f 314, g5f 315, g5f 316, g5f 317, g5f 318, g5f 319, g5f 320, g5f 321, g5f 322, g5f 323, g5f 324, g5f 325, g5f 326, g5f 327, g5f 328, g5f 329, g5f 330, g5f 331, g5f 332, g5f 333, g5f 334, g5f 335, g5f 336, g5f 337, g5f 338, g5f 339, g5f 340, g5f 341, g5f 342, g5f 343, g5f 344, g5f 345, g5f 346, g5f 347, g5f 348, g5f 349, g5f 350, g5f 351, g5f 352, g5f 353, g5f 354, g5f 355, g5f 356, g5f 357, g5f 358, g5f 359, g5f 360, g5f 361, g5f 362, g5f 363, g5f 364, g5f 365, g5f 366, g5f 367, g5f 368, g5f 369, g5f 370, g5f 371, g5f 372, g5f 373, g5f 374, g5f 375, g5f 376, g5f 377, g5f 378, g5f 379, g5f 380, g5f 381, g5f 382, g5f 383, g5f 384, g5f 385, g5f 386, g5f 387, g5f 388, g5f 389, g5f 390, g5f 391, g5f 392, g5f 393, g5f 394, g5f 395, g5f 396, g5f 397, g5f 398, g5f 399, g5f 400, g5f 401, g5f 402, g5f 403, g5f 404, g5f 405, g5f 406, g5f 407, g5f 408, g5f 409, g5f 410, g5f 411, g5f 412, g5f 413, g5f 414, g5f 415, g5f 416, g5f 417, g5f 418, g5f 419, g5f 420, g5f 421, g5f 422, g5f 423, g5f 424, g5f 425, g5f 426, g5f 427] from rfl]
      rw [frame_get q_0, frame_get q_12, frame_get q_14, frame_get q_15, frame_get q_16, frame_get q_79, frame_get q_80, frame_get q_81]
      clear q_0 q_12 q_14 q_15 q_16 q_79 q_80 q_81
      refine hK _ _ ?_
      clear hK K
      have TT := Lib.hid (told_any w5 hst5.buf hk5.in_ hst5.note (hk5.told (by omega)))
      have H5 := Lib.hid (And.intro hst5 hk5)
      have Ht2 := Lib.hid ht2
      have Hsn := Lib.hid hsn
      have Hst2 := Lib.hid hst2
      clear hst5 hk5 HKL HA HK ht2 hsn hst2 hnow hmss hmay hk6 hp4
      go_wp2_with (first
        | (go_at_call 14; go_loud ((with_reducible refine TT.out.mono ?_); rintro e w6 ⟨rfl, n6, rfl⟩)))
      refine ⟨l.length - (i + 1), by omega, i + 1, s.step (kd, mn, pl, tk), q', { known := ?_, hgg := rfl, hle := hlt, run := Hrun.out, st := H5.out.1.drewN n6, keeps := by rw [Hsn.out]; exact H5.out.2, t0 := by have := Hst2.out; omega, t1 := by have := Hst2.out; omega }⟩
      rw [Hsn.out, ← Ht2.out, show ((i + 1 : Nat) : Int) = (i : Int) + 1 by omega]
      exact ⟨rfl, rfl, rfl, rfl, rfl, rfl, rfl, rfl, rfl, rfl⟩
    · have he : i = l.length := by omega
      subst he
      simp only [List.drop_length, resRun] at hrun
      have Hrun := Lib.hid hrun
      have HB := Lib.hid hst.bel
      clear hst hk hrun
      go_wp2_with (fail)
      go_ret2
      rw [← Hrun.out]
      exact ⟨rfl, HB.out⟩
end Go.Proofs.Ytnpmelonkcgpgad

