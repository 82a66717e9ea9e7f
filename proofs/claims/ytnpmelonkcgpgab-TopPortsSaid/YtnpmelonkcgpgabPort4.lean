/- ported11, the act that copies the pool. -/
import Derived.Test.YtnpmelonkcgpgabPort3
namespace Go.Proofs.Ytnpmelonkcgpgab
open Go.RowKit
set_option linter.unusedVariables false
set_option linter.unusedSimpArgs false

section
variable {w wr w0 w1 w2 : World} {pb pt pu xb xt xf bb c n i : Nat} {A : Option Addr} {p pc : PoolS} {x y : NoteS} {lo hi rest many kd wh tk : Int}

theorem step_copy (hk : kd % 6 = 5) : noteStep x (kd, wh, tk) = (x, 0) := by
  have h0 : ¬ (kd % 6 = 0 ∨ kd % 6 = 1) := by omega
  have h1 : ¬ (kd % 6 = 2 ∨ kd % 6 = 3) := by omega
  have h2 : ¬ kd % 6 = 4 := by omega
  simp only [noteStep, if_neg h0, if_neg h1, if_neg h2]

/-- A copy goes with a copy, as far as is seen from the ports. -/
structure Twin (lo hi : Int) (pc : PoolS) (y : NoteS) : Prop where
  pl : pc.low = lo
  ph : pc.high = hi
  yl : y.low = lo
  yh : y.high = hi
  n0 : 0 ≤ pc.now
  fr : ∀ k, lo ≤ k → k ≤ hi → pc.free k = y.free y.now k

theorem at_zero (h : 0 ≤ pc.now) : pc.at_ 0 = pc := by
  unfold PoolS.at_
  rw [show max pc.now 0 = pc.now by omega]

theorem Twin.none_free (h : Twin lo hi pc y) (hf : (y.leastTo y.now (y.high - y.low + 1).toNat).2 = 0) : ∀ j, pc.low ≤ j → j ≤ pc.high → (pc.at_ 0).free j = false := by
  intro j h0 h1
  rw [at_zero h.n0]
  rw [h.pl] at h0
  rw [h.ph] at h1
  rw [h.fr j h0 h1]
  rcases least_spec y y.now (y.high - y.low + 1).toNat with ⟨_, hf⟩ | ⟨h2, _⟩
  · have := hf (y.high - j).toNat (by rw [h.yl, h.yh]; omega)
    rwa [show y.high - ((y.high - j).toNat : Int) = j by rw [h.yh]; omega] at this
  · omega
theorem Twin.some_free (hg : Twin lo hi pc y) (l1 : lo ≤ hi) (h : ¬ (y.leastTo y.now (y.high - y.low + 1).toNat).2 = 0) :
    lo ≤ (y.leastTo y.now (y.high - y.low + 1).toNat).1 ∧ (y.leastTo y.now (y.high - y.low + 1).toNat).1 ≤ hi ∧ (pc.at_ 0).free (y.leastTo y.now (y.high - y.low + 1).toNat).1 = true ∧
      ∀ j, pc.low ≤ j → j < (y.leastTo y.now (y.high - y.low + 1).toNat).1 → (pc.at_ 0).free j = false := by
  rw [at_zero hg.n0]
  rcases least_spec y y.now (y.high - y.low + 1).toNat with ⟨h2, _⟩ | ⟨h2, j, hj, h3, h4, h5⟩
  · exact absurd h2 h
  · rw [h3]
    rw [hg.yl, hg.yh] at hj
    rw [hg.yh] at h4 ⊢
    refine ⟨by omega, by omega, by rw [hg.fr _ (by omega) (by omega)]; exact h4, fun m hm0 hm1 => ?_⟩
    rw [hg.pl] at hm0
    rw [hg.fr _ (by omega) (by omega)]
    have := h5 (hi - m).toNat (by omega) (by rw [hg.yl, hg.yh]; omega)
    rwa [hg.yh, show hi - ((hi - m).toNat : Int) = m by omega] at this

theorem free_take (pc : PoolS) (k j : Int) : (pc.take k).free j = if j = k then false else pc.free j := by
  unfold PoolS.free PoolS.take
  dsimp only
  rw [aget_put]
  by_cases h : j = k
  · simp [h]
  · rw [if_neg h, if_neg h, aget_del_other h]
theorem free_put (y : NoteS) (now k j : Int) : ({ y with taken := aput k true y.taken } : NoteS).free now j = if j = k then false else y.free now j := by
  unfold NoteS.free
  dsimp only
  rw [aget_put]
  by_cases h : j = k
  · simp [h]
  · rw [if_neg h, if_neg h]
theorem Twin.take (h : Twin lo hi pc y) (k : Int) : Twin lo hi ((pc.at_ 0).take k) { y with taken := aput k true y.taken } := by
  rw [at_zero h.n0]
  refine ⟨h.pl, h.ph, h.yl, h.yh, h.n0, fun j h0 h1 => ?_⟩
  rw [free_take, free_put, h.fr j h0 h1]
theorem Twin.miss (h : Twin lo hi pc y) (l0 : 0 < lo) : Twin lo hi (pc.at_ 0) { y with taken := aput 0 true y.taken } := by
  rw [at_zero h.n0]
  refine ⟨h.pl, h.ph, h.yl, h.yh, h.n0, fun j h0 h1 => ?_⟩
  rw [free_put, h.fr j h0 h1, if_neg (by omega)]

/-- The two copies, in the world. -/
structure Cop (w0 wr : World) (yb yt yf : Nat) (lo hi : Int) (pc : PoolS) (y : NoteS) : Prop where
  bel : Below w0.heap.size w0 wr
  pool : PoolAt wr w0.heap.size (w0.heap.size + 1) (w0.heap.size + 2) pc
  note : NoteAt wr yb yt yf y
  ge : w0.heap.size + 3 ≤ yb ∧ w0.heap.size + 3 ≤ yt ∧ w0.heap.size + 3 ≤ yf
  tw : Twin lo hi pc y
section
variable {yb yt yf : Nat} {pc' : PoolS} {y' : NoteS}
theorem Cop.pool' (h : Cop w0 wr yb yt yf lo hi pc y) (ho : Only [w0.heap.size, w0.heap.size + 1, w0.heap.size + 2] wr w1) (hp : PoolAt w1 w0.heap.size (w0.heap.size + 1) (w0.heap.size + 2) pc') :
    Below w0.heap.size w0 w1 ∧ PoolAt w1 w0.heap.size (w0.heap.size + 1) (w0.heap.size + 2) pc' ∧ NoteAt w1 yb yt yf y :=
  ⟨h.bel.trans (ho.toBelow h.bel.size (by simp)), hp, h.note.1.only ho (by have := h.ge; simp; omega), h.note.2.1.only ho (by have := h.ge; simp; omega), h.note.2.2.1.only ho (by have := h.ge; simp; omega), h.note.2.2.2⟩
theorem Cop.note' (h : Cop w0 wr yb yt yf lo hi pc y) (k : Int) (hq : Below w0.heap.size w0 w1 ∧ PoolAt w1 w0.heap.size (w0.heap.size + 1) (w0.heap.size + 2) pc' ∧ NoteAt w1 yb yt yf y) (ht : Twin lo hi pc' { y with taken := aput k true y.taken }) :
    ∃ w2, (Instr.mapUpdate 40 (.map (some yt)) (.int .i64 k) (.bool true)).run Try.prog w1 = .ok () w2 ∧ Cop w0 w2 yb yt yf lo hi pc' { y with taken := aput k true y.taken } := by
  obtain ⟨hb, hp, hn⟩ := hq
  obtain ⟨w2, r2, m2, t2⟩ := hn.2.1.put (int_key (P := Try.prog) Try.underlying3) Try.underlying40 k true
  have ho : Only [yt] w1 w2 := t2.only (by simp)
  have hge := h.ge
  refine ⟨w2, r2, hb.trans (ho.toBelow hb.size (by simp; omega)), hp.only ho (by simp; omega) (by simp; omega) (by simp; omega), ⟨hn.1.only ho (by simpa using (hn.2.1.ne_blk hn.1).symm), m2, hn.2.2.1.only ho (by simpa using hn.2.2.2.symm), hn.2.2.2⟩, h.ge, ht⟩
end

theorem least_zero (y : NoteS) (now : Int) : ∀ i, (y.leastTo now i).2 = 0 → (y.leastTo now i).1 = 0
  | 0, _ => rfl
  | i + 1, h => by
    have hle := y.leastTo_le now i
    simp only [NoteS.leastTo] at h ⊢
    split at h
    · dsimp only at h; omega
    · rename_i hf
      rw [if_neg hf]
      exact least_zero y now i h

theorem Cop.start {yb yt yf : Nat} (hg : Goes lo hi rest p x) (hp1 : PoolAt w1 wr.heap.size (wr.heap.size + 1) (wr.heap.size + 2) p) (hb1 : Below wr.heap.size wr w1) (hn2 : NoteAt w2 yb yt yf y)
    (e1 : y.low = x.low) (e2 : y.high = x.high) (e3 : y.now = x.now) (e4 : ∀ k, aget k false y.taken = aget k false x.taken) (e5 : ∀ k, aget k 0 y.fre = aget k 0 x.fre) (g1 : w1.heap.size ≤ yb) (g2 : w1.heap.size ≤ yt) (g3 : w1.heap.size ≤ yf)
    (hb2 : Below w1.heap.size w1 w2) : Cop wr w2 yb yt yf lo hi p y := by
  have h2 := hp1.2.2.1.lt
  refine ⟨hb1.trans (hb2.mono hb1.size), hp1.only (Only.below (S := []) hb2) (by simp) (by simp) (by simp), hn2, by omega, hg.pl, hg.ph, e1.trans hg.xl, e2.trans hg.xh, by rw [hg.now]; exact hg.now0, fun k _ _ => ?_⟩
  have h0 := hg.free 0 k
  rw [at_zero (by rw [hg.now]; exact hg.now0)] at h0
  have := hg.now0
  rw [h0, show max 0 x.now = x.now by omega, e3]
  unfold NoteS.free
  rw [e4, e5]


set_option maxRecDepth 100000 in
set_option maxHeartbeats 1000000 in
theorem kind_copy {u0 u1 u3 u4 u5 u6 u7 u8 u9 u11 u14 u19 u20 u21 u22 u23 u24 u25 u26 u27 u28 u29 u30 u31 u32 u33 u34 u35 u36 u37 u38 u39 u40 u41 u42 u43 u44 u45 u46 u47 u48 u49 u50 u51 u52 u53 u54 u55 u56 u57 u58 u59 u60 u61 u62 u63 u64 u65 u66 u67 u68 u72 u73 u74 u75 u76 u77 u78 u79 u80 u81 u82 u83 u84 u85 u86 u87 u88 u89 u90 u91 u92 u93 u94 u95 u96 u97 u98 u99 u100 u101 u102 u103 u104 u105 u106 u107 u108 u109 u110 u111 u112 u113 u114 u115 u116 u117 u118 u119 u120 u121 u122 u123 u124 u125 u126 u127 u128 u129 u130 u131 u132 u133 u134 u135 u136 u137 u138 u139 u140 u141 u142 u143 u144 u145 u146 u147 u148 u149 u150 u151 u152 u153 u154 u155 u156 u157 u158 u159 u160 u161 u162 u163 u164 u165 u166 u167 u168 u169 u170 u171 u172 u173 u174 u175 u176 u177 u178 u179 u180 u181 u182 u183 u184 u185 u186 u187 u188 u189 u190 u191 u192 u193 u194 u195 u196 u197 u198 u199 u200 u201 u202 u203 u204 u205 u206 u207 u208 u209 u210 u211 u212 u213 u214 u215 u216 u217 u218 u219 u220 u221 u222 u223 u224 u225 u226 u227 u228 u229 u230 u231 u232 u233 u234 u235 u236 u237 u238 u239 u240 u241 u242 u243 u244 u245 u246 u247 u248 u249 u250 u251 u252 u253 u254 u255 u256 u257 u258 u259 u260 u261 u262 u263 u264 u265 u266 u267 u268 u269 u270 u271 u272 u273 u274 u275 u276 u277 u278 u279 u280 u281 u282 u283 u284 u285 u286 u287 u288 u289 u290 u291 u292 u293 u294 u295 u296 u297 u298 u299 u300 u301 u302 u303 u304 u305 u306 u307 u308 u309 u310 u311 u312 u313 u314 u315 u316 u317 u318 u319 u320 u321 u322 u323 u324 u325 u326 u327 u328 u329 u330 u331 u332 : Value} (h : Amid w wr pb pt pu xb xt xf bb p x kd wh tk) (hg : Goes lo hi rest p x) (hl : Lim lo hi rest kd wh tk) (hk : kd % 6 = 5) :
    Code.wp Try.prog (codeAt (fbody Try.f5) [1,1,1,1,1,1,0,1,0,0,1,1,0,0,1,1,1,1,1,0]) (Exit.then (Out (fun a' => (a'.defers = [] ∧ a'.tmps.size = 333 ∧ a'.tmps[2]? = some (.int .u64 rest) ∧ a'.tmps[10]? = some (.pointer (some ⟨pb, 0, none⟩)) ∧ a'.tmps[12]? = some (.pointer (some ⟨xb, 0, none⟩)) ∧ a'.tmps[13]? = some (.int .i64 (many + (noteStep x (kd, wh, tk)).2)) ∧ a'.tmps[69]? = some (.slice A n c) ∧ a'.tmps[70]? = some (.int .i64 n) ∧ a'.tmps[71]? = some (.int .i64 i))) (fun w' => Did w w' pb pt pu xb xt xf lo hi rest (noteStep x (kd, wh, tk)).1)) Never) (⟨#[u0, u1, .int .u64 rest, u3, u4, u5, u6, u7, u8, u9, .pointer (some ⟨pb, 0, none⟩), u11, .pointer (some ⟨xb, 0, none⟩), .int .i64 many, u14, .pointer (some ⟨bb, 0, none⟩), .int .u64 (actNow x.now tk), .int .u64 (max (actNow x.now tk) x.now), .int .i64 (actPort lo hi wh), u19, u20, u21, u22, u23, u24, u25, u26, u27, u28, u29, u30, u31, u32, u33, u34, u35, u36, u37, u38, u39, u40, u41, u42, u43, u44, u45, u46, u47, u48, u49, u50, u51, u52, u53, u54, u55, u56, u57, u58, u59, u60, u61, u62, u63, u64, u65, u66, u67, u68, .slice A n c, .int .i64 n, .int .i64 i, u72, u73, u74, u75, u76, u77, u78, u79, u80, u81, u82, u83, u84, u85, u86, u87, u88, u89, u90, u91, u92, u93, u94, u95, u96, u97, u98, u99, u100, u101, u102, u103, u104, u105, u106, u107, u108, u109, u110, u111, u112, u113, u114, u115, u116, u117, u118, u119, u120, u121, u122, u123, u124, u125, u126, u127, u128, u129, u130, u131, u132, u133, u134, u135, u136, u137, u138, u139, u140, u141, u142, u143, u144, u145, u146, u147, u148, u149, u150, u151, u152, u153, u154, u155, u156, u157, u158, u159, u160, u161, u162, u163, u164, u165, u166, u167, u168, u169, u170, u171, u172, u173, u174, u175, u176, u177, u178, u179, u180, u181, u182, u183, u184, u185, u186, u187, u188, u189, u190, u191, u192, u193, u194, u195, u196, u197, u198, u199, u200, u201, u202, u203, u204, u205, u206, u207, u208, u209, u210, u211, u212, u213, u214, u215, u216, u217, u218, u219, u220, u221, u222, u223, u224, u225, u226, u227, u228, u229, u230, u231, u232, u233, u234, u235, u236, u237, u238, u239, u240, u241, u242, u243, u244, u245, u246, u247, u248, u249, u250, u251, u252, u253, u254, u255, u256, u257, u258, u259, u260, u261, u262, u263, u264, u265, u266, u267, u268, u269, u270, u271, u272, u273, u274, u275, u276, u277, u278, u279, u280, u281, u282, u283, u284, u285, u286, u287, u288, u289, u290, u291, u292, u293, u294, u295, u296, u297, u298, u299, u300, u301, u302, u303, u304, u305, u306, u307, u308, u309, u310, u311, u312, u313, u314, u315, u316, u317, u318, u319, u320, u321, u322, u323, u324, u325, u326, u327, u328, u329, u330, u331, u332], []⟩ : Act) wr := by
  have k0 := h.2.cell 0
  obtain ⟨l0, l1, l2, r0, r1, kd0, kd1, w0', w1', t0, t1⟩ := hl
  simp only [step_copy hk, Int.add_zero]
  have H := Lib.hid h.1
  have Hg := Lib.hid hg
  have hk' : kd.tmod 6 = kd % 6 := Int.tmod_eq_emod_of_nonneg kd0
  clear h hg
  conv => arg 2; whnf
  rw [hk] at hk'
  generalize actPort lo hi wh = port at *
  generalize actNow x.now tk = now at *
  generalize max now x.now = at_ at *
  go_wp2_with (first
    | (go_at_call 11
       go_loud (
        have hp := H.out.pool
        (with_reducible refine (copy_any _ _ _ p _ hp).mono ?_)
        clear hp
        rintro e w1 ⟨rfl, hp1, hb1⟩))
    | (go_at_call 12
       go_loud (
        have hp := (H.out.grow hb1).note
        (with_reducible refine (copied_any _ _ _ x _ hp).mono ?_)
        clear hp
        rintro e w2 ⟨yb, yt, yf, y, rfl, hn2, e1, e2, e3, e4, e5, g1, g2, g3, hb2⟩)))
  have C0 := Lib.hid (Cop.start Hg.out hp1 hb1 hn2 e1 e2 e3 e4 e5 g1 g2 g3 hb2)
  clear hp1 hb1 hn2 e1 e2 e3 e4 e5 g1 g2 g3 hb2
  go_loopw [140] (fun s w' => ∃ (j : Nat) (pc : PoolS) (y : NoteS), j ≤ 3 ∧ s = .int .i64 j ∧ Cop wr w' yb yt yf lo hi pc y) (fun s _ => 3 - (intOf s).toNat)
  case atStart => exact ⟨0, _, _, by omega, rfl, C0.out⟩
  case round =>
    obtain ⟨j, pc, z, hj, rfl, hc⟩ := hrel
    rename_i w3
    by_cases hlt : j < 3
    · obtain ⟨n0, n1, n2, n3, n4, n5, n6⟩ := hc.note.cells
      have E1 : Hid (0 ≤ z.low ∧ z.low ≤ z.high ∧ z.high < 65536) := Lib.hid (by rw [hc.tw.yl, hc.tw.yh]; omega)
      have E2 : Hid (0 ≤ pc.low ∧ pc.low ≤ pc.high ∧ pc.high < 65536) := Lib.hid (by rw [hc.tw.pl, hc.tw.ph]; omega)
      have C := Lib.hid hc
      by_cases hf : (z.leastTo z.now (z.high - z.low + 1).toNat).2 = 0
      · have E3 := Lib.hid (hc.tw.none_free hf)
        have E4 := Lib.hid (hc.tw.miss l0)
        have E5 := Lib.hid (least_zero _ _ _ hf)
        have E6 := Lib.hid hf
        clear hc hf n0 n1 n2 n4 n6
        go_wp2_with (first
          | (go_at_call 7
             go_loud (
              have hp := C.out.pool
              have hE := E2.out
              (with_reducible refine (take_full _ _ _ pc 0 _ hp (by omega) hE.1 hE.2.1 hE.2.2 E3.out).mono ?_)
              clear hp hE
              rintro e w4 ⟨rfl, hp4, ho4⟩
              have H4 := C.out.pool' ho4 hp4
              obtain ⟨q0, q1, q2, q3, q4, q5, q6⟩ := H4.2.2.cells
              obtain ⟨w5, r5, hc5⟩ := C.out.note' 0 H4 E4.out
              have C5 := Lib.hid hc5
              clear hp4 ho4 H4 hc5 q0 q1 q2 q4 q5 q6))
          | (go_at_call 9
             go_loud (
              have hp := C.out.note
              have hE := E1.out
              have hq := least_any _ _ _ z z.now _ hp hE.1 hE.2.1 hE.2.2
              rw [E5.out, E6.out] at hq
              (with_reducible refine hq.mono ?_)
              clear hp hE hq
              rintro e w' ⟨rfl, rfl⟩)))
        go_roundw
        case rel => exact ⟨j + 1, _, _, by omega, by go_num, C5.out⟩
        case measure => simp [intOf]; omega
      · have hs := hc.tw.some_free l1 hf
        have hs1 := hs.1
        have hs2 := hs.2.1
        have E3 := Lib.hid hs
        have E4 := Lib.hid (hc.tw.take (z.leastTo z.now (z.high - z.low + 1).toNat).1)
        have hle := (z.leastTo_le z.now (z.high - z.low + 1).toNat).1
        generalize hff : (z.leastTo z.now (z.high - z.low + 1).toNat).2 = fr at *
        have E6 := Lib.hid hff
        have hf1 : 0 < fr := by omega
        have hf' : decide (0 < fr) = true := decide_eq_true hf1
        generalize hkk : (z.leastTo z.now (z.high - z.low + 1).toNat).1 = k at *
        have E5 := Lib.hid hkk
        have E7 : Hid (pc.low ≤ k ∧ k ≤ pc.high) := Lib.hid (by rw [hc.tw.pl, hc.tw.ph]; exact ⟨hs1, hs2⟩)
        clear hc hf n0 n1 n2 n4 n6 hff hkk hs hle
        go_wp2_with (first
          | (go_at_call 7
             go_loud (
              have hp := C.out.pool
              have hE := E2.out
              have hF := E3.out
              have hG := E7.out
              (with_reducible refine (take_some _ _ _ pc 0 k _ hp (by omega) hE.1 hE.2.1 hE.2.2 hG.1 hG.2 hF.2.2.1 hF.2.2.2).mono ?_)
              clear hp hE hF hG
              rintro e w4 ⟨rfl, hp4, ho4⟩
              have H4 := C.out.pool' ho4 hp4
              obtain ⟨q0, q1, q2, q3, q4, q5, q6⟩ := H4.2.2.cells
              obtain ⟨w5, r5, hc5⟩ := C.out.note' k H4 E4.out
              have C5 := Lib.hid hc5
              clear hp4 ho4 H4 hc5 q0 q1 q2 q4 q5 q6))
          | (go_at_call 9
             go_loud (
              have hp := C.out.note
              have hE := E1.out
              have hq := least_any _ _ _ z z.now _ hp hE.1 hE.2.1 hE.2.2
              rw [E5.out, E6.out] at hq
              (with_reducible refine hq.mono ?_)
              clear hp hE hq
              rintro e w' ⟨rfl, rfl⟩)))
        go_roundw
        case rel => exact ⟨j + 1, _, _, by omega, by go_num, C5.out⟩
        case measure => simp [intOf]; omega
    · go_wp2
      exact ⟨⟨rfl, rfl, rfl, rfl, rfl, rfl, rfl, rfl, rfl⟩, ⟨_, H.out.grow hc.bel, Hg.out⟩⟩
end
end Go.Proofs.Ytnpmelonkcgpgab

