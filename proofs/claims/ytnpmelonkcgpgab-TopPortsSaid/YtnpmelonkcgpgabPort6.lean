/- ported11: the pool, held against the noter, act by act. -/
import Derived.Test.YtnpmelonkcgpgabPort5
namespace Go.Proofs.Ytnpmelonkcgpgab
open Go.RowKit
set_option linter.unusedVariables false
set_option linter.unusedSimpArgs false


section
variable {w wr w0 w1 w2 : World} {pb pt pu xb xt xf bb c n i : Nat} {A : Option Addr} {p pc : PoolS} {x y : NoteS} {lo hi rest many kd wh tk : Int}

set_option maxRecDepth 100000 in
theorem part_kind {u0 u1 u3 u4 u5 u6 u7 u8 u9 u11 u14 u19 u20 u21 u22 u23 u24 u25 u26 u27 u28 u29 u30 u31 u32 u33 u34 u35 u36 u37 u38 u39 u40 u41 u42 u43 u44 u45 u46 u47 u48 u49 u50 u51 u52 u53 u54 u55 u56 u57 u58 u59 u60 u61 u62 u63 u64 u65 u66 u67 u68 u72 u73 u74 u75 u76 u77 u78 u79 u80 u81 u82 u83 u84 u85 u86 u87 u88 u89 u90 u91 u92 u93 u94 u95 u96 u97 u98 u99 u100 u101 u102 u103 u104 u105 u106 u107 u108 u109 u110 u111 u112 u113 u114 u115 u116 u117 u118 u119 u120 u121 u122 u123 u124 u125 u126 u127 u128 u129 u130 u131 u132 u133 u134 u135 u136 u137 u138 u139 u140 u141 u142 u143 u144 u145 u146 u147 u148 u149 u150 u151 u152 u153 u154 u155 u156 u157 u158 u159 u160 u161 u162 u163 u164 u165 u166 u167 u168 u169 u170 u171 u172 u173 u174 u175 u176 u177 u178 u179 u180 u181 u182 u183 u184 u185 u186 u187 u188 u189 u190 u191 u192 u193 u194 u195 u196 u197 u198 u199 u200 u201 u202 u203 u204 u205 u206 u207 u208 u209 u210 u211 u212 u213 u214 u215 u216 u217 u218 u219 u220 u221 u222 u223 u224 u225 u226 u227 u228 u229 u230 u231 u232 u233 u234 u235 u236 u237 u238 u239 u240 u241 u242 u243 u244 u245 u246 u247 u248 u249 u250 u251 u252 u253 u254 u255 u256 u257 u258 u259 u260 u261 u262 u263 u264 u265 u266 u267 u268 u269 u270 u271 u272 u273 u274 u275 u276 u277 u278 u279 u280 u281 u282 u283 u284 u285 u286 u287 u288 u289 u290 u291 u292 u293 u294 u295 u296 u297 u298 u299 u300 u301 u302 u303 u304 u305 u306 u307 u308 u309 u310 u311 u312 u313 u314 u315 u316 u317 u318 u319 u320 u321 u322 u323 u324 u325 u326 u327 u328 u329 u330 u331 u332 : Value} (h : Amid w wr pb pt pu xb xt xf bb p x kd wh tk) (hg : Goes lo hi rest p x) (hl : Lim lo hi rest kd wh tk) (hm : 0 ≤ many ∧ many ≤ 80) :
    Code.wp Try.prog (codeAt (fbody Try.f5) [1,1,1,1,1,1,0,1,0,0,1,1,0,0,1,1,1,1,1,0]) (Exit.then (Out (fun a' => (a'.defers = [] ∧ a'.tmps.size = 333 ∧ a'.tmps[2]? = some (.int .u64 rest) ∧ a'.tmps[10]? = some (.pointer (some ⟨pb, 0, none⟩)) ∧ a'.tmps[12]? = some (.pointer (some ⟨xb, 0, none⟩)) ∧ a'.tmps[13]? = some (.int .i64 (many + (noteStep x (kd, wh, tk)).2)) ∧ a'.tmps[69]? = some (.slice A n c) ∧ a'.tmps[70]? = some (.int .i64 n) ∧ a'.tmps[71]? = some (.int .i64 i))) (fun w' => Did w w' pb pt pu xb xt xf lo hi rest (noteStep x (kd, wh, tk)).1)) Never) (⟨#[u0, u1, .int .u64 rest, u3, u4, u5, u6, u7, u8, u9, .pointer (some ⟨pb, 0, none⟩), u11, .pointer (some ⟨xb, 0, none⟩), .int .i64 many, u14, .pointer (some ⟨bb, 0, none⟩), .int .u64 (actNow x.now tk), .int .u64 (max (actNow x.now tk) x.now), .int .i64 (actPort lo hi wh), u19, u20, u21, u22, u23, u24, u25, u26, u27, u28, u29, u30, u31, u32, u33, u34, u35, u36, u37, u38, u39, u40, u41, u42, u43, u44, u45, u46, u47, u48, u49, u50, u51, u52, u53, u54, u55, u56, u57, u58, u59, u60, u61, u62, u63, u64, u65, u66, u67, u68, .slice A n c, .int .i64 n, .int .i64 i, u72, u73, u74, u75, u76, u77, u78, u79, u80, u81, u82, u83, u84, u85, u86, u87, u88, u89, u90, u91, u92, u93, u94, u95, u96, u97, u98, u99, u100, u101, u102, u103, u104, u105, u106, u107, u108, u109, u110, u111, u112, u113, u114, u115, u116, u117, u118, u119, u120, u121, u122, u123, u124, u125, u126, u127, u128, u129, u130, u131, u132, u133, u134, u135, u136, u137, u138, u139, u140, u141, u142, u143, u144, u145, u146, u147, u148, u149, u150, u151, u152, u153, u154, u155, u156, u157, u158, u159, u160, u161, u162, u163, u164, u165, u166, u167, u168, u169, u170, u171, u172, u173, u174, u175, u176, u177, u178, u179, u180, u181, u182, u183, u184, u185, u186, u187, u188, u189, u190, u191, u192, u193, u194, u195, u196, u197, u198, u199, u200, u201, u202, u203, u204, u205, u206, u207, u208, u209, u210, u211, u212, u213, u214, u215, u216, u217, u218, u219, u220, u221, u222, u223, u224, u225, u226, u227, u228, u229, u230, u231, u232, u233, u234, u235, u236, u237, u238, u239, u240, u241, u242, u243, u244, u245, u246, u247, u248, u249, u250, u251, u252, u253, u254, u255, u256, u257, u258, u259, u260, u261, u262, u263, u264, u265, u266, u267, u268, u269, u270, u271, u272, u273, u274, u275, u276, u277, u278, u279, u280, u281, u282, u283, u284, u285, u286, u287, u288, u289, u290, u291, u292, u293, u294, u295, u296, u297, u298, u299, u300, u301, u302, u303, u304, u305, u306, u307, u308, u309, u310, u311, u312, u313, u314, u315, u316, u317, u318, u319, u320, u321, u322, u323, u324, u325, u326, u327, u328, u329, u330, u331, u332], []⟩ : Act) wr := by
  have k0 := hl.k0
  by_cases hk1 : kd % 6 = 0 ∨ kd % 6 = 1
  · by_cases hn : 1099511627776 < actNow x.now tk
    · exact kind_take_arg h hg hl hk1 hn
    · by_cases hf : (x.leastTo (max (actNow x.now tk) x.now) (x.high - x.low + 1).toNat).2 = 0
      · exact kind_take_full h hg hl hk1 hn hf
      · exact kind_take_some h hg hl hk1 hn hf hm
  · by_cases hk2 : kd % 6 = 2 ∨ kd % 6 = 3
    · by_cases hn : 1099511627776 < actNow x.now tk
      · exact kind_give_arg h hg hl hk2 hn
      · by_cases hf : aget (actPort x.low x.high wh) false x.taken = false
        · exact kind_give_none h hg hl hk2 hn hf
        · exact kind_give_ok h hg hl hk2 hn hf
    · by_cases hk3 : kd % 6 = 4
      · by_cases hn : 1099511627776 < actNow x.now tk
        · exact kind_free_arg h hg hl hk3 hn
        · exact kind_free_ok h hg hl hk3 hn
      · exact kind_copy h hg hl (by omega)
end

/-- Between two acts. -/
structure PortI (lo hi rest : Int) (A : Option Addr) (l : List Act3) (c : Nat) (w : World) (pb pt pu xb xt xf : Nat) (g : Nat) (a : Act) (wr : World) (i : Nat) (many : Int) (p : PoolS) (x : NoteS) : Prop where
  known : (a.defers = [] ∧ a.tmps.size = 333 ∧ a.tmps[2]? = some (.int .u64 rest) ∧ a.tmps[10]? = some (.pointer (some ⟨pb, 0, none⟩)) ∧ a.tmps[12]? = some (.pointer (some ⟨xb, 0, none⟩)) ∧ a.tmps[13]? = some (.int .i64 many) ∧ a.tmps[69]? = some (.slice A l.length c) ∧ a.tmps[70]? = some (.int .i64 l.length) ∧ a.tmps[71]? = some (.int .i64 i))
  hgg : g = l.length - i
  hle : i ≤ l.length
  hmm : many + noteRun x (l.drop i) = noteRun ⟨lo, hi, rest, 0, [], []⟩ l
  hm0 : 0 ≤ many
  hm1 : many ≤ i
  goes : Goes lo hi rest p x
  st : St w wr pb pt pu xb xt xf p x
def PortJ (lo hi rest : Int) (A : Option Addr) (l : List Act3) (c : Nat) (w : World) (pb pt pu xb xt xf : Nat) (g : Nat) (a : Act) (wr : World) : Prop := ∃ i many p x, PortI lo hi rest A l c w pb pt pu xb xt xf g a wr i many p x

set_option maxRecDepth 100000 in
set_option maxHeartbeats 1000000 in
theorem ported_ok (lo hi rest : Int) (A : Option Addr) (l : List Act3) (c : Nat) (w : World) (hlo : 0 < lo) (hlh : lo ≤ hi) (hhi : hi ≤ 60020) (hr0 : 0 ≤ rest) (hr1 : rest ≤ 1099511627776)
    (hl : Sl w A (actCells l)) (hb : ∀ a ∈ l, 0 ≤ a.1 ∧ a.1 < 256 ∧ 0 ≤ a.2.1 ∧ a.2.1 < 256 ∧ -32768 ≤ a.2.2 ∧ a.2.2 ≤ 32767) (hll : l.length ≤ 80) (hc : l.length ≤ c) :
    Calls Try.prog 5 #[.int .i64 lo, .int .i64 hi, .int .u64 rest, .slice A l.length c] w fun e w' => e = .returned (.tuple #[.int .i64 (noteRun ⟨lo, hi, rest, 0, [], []⟩ l), .bool true]) ∧ Below w.heap.size w w' := by
  have hmm := @run_makeMap Try.prog
  have h1 : (lo == 0) = false := by simp; omega
  have h2 : decide (hi < lo) = false := by simp; omega
  have h3 : decide (1099511627776 < rest) = false := by simp; omega
  go_enter Try.func5, Try.ntmps5
  go_wp2_with (first
    | (go_at_call 6; refine (new_ok lo hi rest _ h1 h2 h3).mono ?_; rintro e w1 ⟨rfl, hp1, hs1, hb1⟩))
  have S0 : Hid (St w (((w1.alloc (.map #[] 0)).alloc (.map #[] 0)).alloc (.cells #[.int .i64 lo, .int .i64 hi, .int .u64 rest, .map (some (w.heap.size + 3)), .map (some (w.heap.size + 3 + 1)), .int .u64 0] 43)) (w.heap.size + 2) w.heap.size (w.heap.size + 1) (w.heap.size + 3 + 1 + 1) (w.heap.size + 3) (w.heap.size + 3 + 1) ⟨lo, hi, rest, 0, [], []⟩ ⟨lo, hi, rest, 0, [], []⟩) := by
    have k : Below w1.heap.size w1 (((w1.alloc (.map #[] 0)).alloc (.map #[] 0)).alloc (.cells #[.int .i64 lo, .int .i64 hi, .int .u64 rest, .map (some (w.heap.size + 3)), .map (some (w.heap.size + 3 + 1)), .int .u64 0] 43)) :=
      (((Below.refl _ _).alloc (Nat.le_refl _) _).alloc (by simp) _).alloc (by simp; omega) _
    exact ⟨hp1.only (Only.below (S := []) k) (by simp) (by simp) (by simp), ⟨Blk.new_at _ _ _ (by simp [hs1]), ((Mp.made_at w1 _ _ hs1.symm).alloc _).alloc _, (Mp.made_at (w1.alloc _) _ _ (by simp [hs1])).alloc _, by omega⟩, by simp <;> omega, by simp <;> omega, by simp <;> omega, by omega, hb1.trans (k.mono (by omega))⟩
  clear hp1 hs1 hb1 h1 h2 h3 hmm
  generalize w.heap.size + 2 = pb at *
  generalize w.heap.size + 3 + 1 + 1 = xb at *
  generalize w.heap.size + 3 + 1 = xf at *
  generalize w.heap.size + 3 = xt at *
  generalize w.heap.size + 1 = pu at *
  obtain ⟨pt, hpt⟩ : ∃ pt, pt = w.heap.size := ⟨_, rfl⟩
  have S1 : Hid (St w (((w1.alloc (.map #[] 0)).alloc (.map #[] 0)).alloc (.cells #[.int .i64 lo, .int .i64 hi, .int .u64 rest, .map (some xt), .map (some xf), .int .u64 0] 43)) pb pt pu xb xt xf ⟨lo, hi, rest, 0, [], []⟩ ⟨lo, hi, rest, 0, [], []⟩) := by rw [hpt]; exact S0
  clear S0 hpt
  refine wp_loop_nxt (PortJ lo hi rest A l c w pb pt pu xb xt xf) l.length ?_ ?_
  · exact ⟨0, 0, _, _, ⟨rfl, rfl, rfl, rfl, rfl, rfl, rfl, rfl, rfl⟩, by omega, by omega, by simp, by omega, by omega, ⟨rfl, rfl, rfl, rfl, rfl, rfl, rfl, Int.le_refl _, by show (0 : Int) ≤ 1099511627776; omega, fun _ => rfl, fun _ _ => rfl, by simp, by simp⟩, S1.out⟩
  · rintro g a0 wr ⟨i, many, p, x, q0, rfl, hil, hmany, hm0, hm1, hgo, hst⟩
    obtain ⟨fd_, fs_, q_2, q_10, q_12, q_13, q_69, q_70, q_71⟩ := q0
    obtain ⟨f0, rfl⟩ := frame_open fd_ fs_
    clear fd_ fs_
    rw [show ((List.range 333).map f0).toArray = #[f0 0, f0 1, f0 2, f0 3, f0 4, f0 5, f0 6, f0 7, f0 8, f0 9, f0 10, f0 11, f0 12, f0 13, f0 14, f0 15, f0 16, f0 17, f0 18, f0 19, f0 20, f0 21, f0 22, f0 23, f0 24, f0 25, f0 26, f0 27, f0 28, f0 29, f0 30, f0 31, f0 32, f0 33, f0 34, f0 35, f0 36, f0 37, f0 38, f0 39, f0 40, f0 41, f0 42, f0 43, f0 44, f0 45, f0 46, f0 47, f0 48, f0 49, f0 50, f0 51, f0 52, f0 53, f0 54, f0 55, f0 56, f0 57, f0 58, f0 59, f0 60, f0 61, f0 62, f0 63, f0 64, f0 65, f0 66, f0 67, f0 68, f0 69, f0 70, f0 71, f0 72, f0 73, f0 74, f0 75, f0 76, f0 77, f0 78, f0 79, f0 80, f0 81, f0 82, f0 83, f0 84, f0 85, f0 86, f0 87, f0 88, f0 89, f0 90, f0 91, f0 92, f0 93, f0 94, f0 95, f0 96, f0 97, f0 98, f0 99, f0 100, f0 101, f0 102, f0 103, f0 104, f0 105, f0 106, f0 107, f0 108, f0 109, f0 110, f0 111, f0 112, f0 113, f0 114, f0 115, f0 116, f0 117, f0 118, f0 119, f0 120, f0 121, f0 122, f0 123, f0 124, f0 125, f0 126, f0 127, f0 128, f0 129, f0 130, f0 131, f0 132, f0 133, f0 134, f0 135, f0 136, f0 137, f0 138, f0 139, f0 140, f0 141, f0 142, f0 143, f0 144, f0 145, f0 146, f0 147, f0 148, f0 149, f0 150, f0 151, f0 152, f0 153, f0 154, f0 155, f0 156, f0 157, f0 158, f0 159, f0 160, f0 161, f0 162, f0 163, f0 164, f0 165, f0 166, f0 167, f0 168, f0 169, f0 170, f0 171, f0 172, f0 173, f0 174, f0 175, f0 176, f0 177, f0 178, f0 179, f0 180, f0 181, f0 182, f0 183, f0 184, f0 185, f0 186, f0 187, f0 188, f0 189, f0 190, f0 191, f0 192, f0 193, f0 194, f0 195, f0 196, f0 197, f0 198, f0 199, f0 200, f0 201, f0 202, f0 203, f0 204, f0 205, f0 206, f0 207, f0 208, f0 209, f0 210, f0 211, f0 212, f0 213, f0 214, f0 215, f0 216, f0 217, f0 218, f0 219, f0 220, f0 221, f0 222, f0 223, f0 224, f0 225, f0 226, f0 227, f0 228, f0 229, f0 230, f0 231, f0 232, f0 233, f0 234, f0 235, f0 236, f0 237, f0 238, f0 239, f0 240, f0 241, f0 242, f0 243, f0 244, f0 245, f0 246, f0 247, f0 248, f0 249, f0 250, f0 251, f0 252, f0 253, f0 254, f0 255, f0 256, f0 257, f0 258, f0 259, f0 260, f0 261, f0 262, f0 263, f0 264, f0 265, f0 266, f0 267, f0 268, f0 269, f0 270, f0 271, f0 272, f0 273, f0 274, f0 275, f0 276, f0 277, f0 278, f0 279, f0 280, f0 281, f0 282, f0 283, f0 284, f0 285, f0 286, f0 287, f0 288, f0 289, f0 290, f0 291, f0 292, f0 293, f0 294, f0 295, f0 296, f0 297, f0 298, f0 299, f0 300, f0 301, f0 302, f0 303, f0 304, f0 305, f0 306, f0 307, f0 308, f0 309, f0 310, f0 311, f0 312, f0 313, f0 314, f0 315, f0 316, f0 317, f0 318, f0 319, f0 320, f0 321, f0 322, f0 323, f0 324, f0 325, f0 326, f0 327, f0 328, f0 329, f0 330, f0 331, f0 332] from rfl]
    rw [frame_get q_2, frame_get q_10, frame_get q_12, frame_get q_13, frame_get q_69, frame_get q_70, frame_get q_71]
    clear q_2 q_10 q_12 q_13 q_69 q_70 q_71
    by_cases hlt : i < l.length
    · obtain ⟨ab, ao, rfl, hcell⟩ := hl (by rw [actCells_length]; omega)
      have hcs := actCells_get l i hlt
      obtain ⟨b1, b2, b3, b4, b5, b6⟩ := hb l[i] (List.getElem_mem _)
      have c0 : wr.cell? ⟨ab, ao + i * 3, none⟩ = some (.int .u8 (l[i]).1) := (hst.bel.cell (cell_lt (hcell _ _ hcs.1))).trans (hcell _ _ hcs.1)
      have c1 : wr.cell? ⟨ab, ao + i * 3 + 1, none⟩ = some (.int .u8 (l[i]).2.1) := (hst.bel.cell (cell_lt (hcell _ _ hcs.2.1))).trans (hcell _ _ hcs.2.1)
      have c2 : wr.cell? ⟨ab, ao + i * 3 + 2, none⟩ = some (.int .i16 (l[i]).2.2) := (hst.bel.cell (cell_lt (hcell _ _ hcs.2.2))).trans (hcell _ _ hcs.2.2)
      clear hcell hcs
      have hmany' : many + ((noteStep x l[i]).2 + noteRun (noteStep x l[i]).1 (l.drop (i + 1))) = noteRun ⟨lo, hi, rest, 0, [], []⟩ l := by
        rw [← hmany, List.drop_eq_getElem_cons hlt]; rfl
      have Hmany := Lib.hid hmany'
      clear hmany hmany'
      generalize l[i] = a at *
      obtain ⟨kd, wh, tk⟩ := a
      dsimp only at *
      have HL := Lib.hid hl
      clear hl hb
      have hsz := hst.bel.size
      have hst' := hst.grow (bel_alloc (.cells #[.int .u8 kd, .int .u8 wh, .int .i16 tk] 38))
      have hbk := Blk.new wr 38 #[.int .u8 kd, .int .u8 wh, .int .i16 tk]
      have hltb := hbk.lt
      obtain ⟨n0, n1, n2, n3, n4, n5, n6⟩ := hst'.note.cells
      have k0 := hbk.cell 0
      have k1 := hbk.cell 1
      have k2 := hbk.cell 2
      have Hst := Lib.hid hst'
      have Hbk := Lib.hid hbk
      have Hgo := Lib.hid hgo
      rw [hgo.xl] at n0
      rw [hgo.xh] at n1
      have x0 := hgo.now0
      have x1 := hgo.now1
      clear hst hst' hbk hgo n2 n3 n4 n6
      have HL2 : Hid (Lim lo hi rest kd wh tk) := Lib.hid ⟨hlo, hlh, hhi, hr0, hr1, b1, b2, b3, b4, b5, b6⟩
      go_wp2_with (fail)
      clear c0 c1 c2 n0 n1 n5 k0 k1 k2
      have HA : Hid (Amid w (wr.alloc (.cells #[.int .u8 kd, .int .u8 wh, .int .i16 tk] 38)) pb pt pu xb xt xf wr.heap.size p x kd wh tk) := Lib.hid ⟨Hst.out, Hbk.out⟩
      rename_i K hK
      refine wp_part (part_r11 HA.out) ?_
      rintro a1 w1 ⟨q1, m1⟩
      obtain ⟨fd_, fs_, q_2, q_10, q_12, q_13, q_15, q_16, q_69, q_70, q_71⟩ := q1
      obtain ⟨f1, rfl⟩ := frame_open fd_ fs_
      clear fd_ fs_
      rw [show ((List.range 333).map f1).toArray = #[f1 0, f1 1, f1 2, f1 3, f1 4, f1 5, f1 6, f1 7, f1 8, f1 9, f1 10, f1 11, f1 12, f1 13, f1 14, f1 15, f1 16, f1 17, f1 18, f1 19, f1 20, f1 21, f1 22, f1 23, f1 24, f1 25, f1 26, f1 27, f1 28, f1 29, f1 30, f1 31, f1 32, f1 33, f1 34, f1 35, f1 36, f1 37, f1 38, f1 39, f1 40, f1 41, f1 42, f1 43, f1 44, f1 45, f1 46, f1 47, f1 48, f1 49, f1 50, f1 51, f1 52, f1 53, f1 54, f1 55, f1 56, f1 57, f1 58, f1 59, f1 60, f1 61, f1 62, f1 63, f1 64, f1 65, f1 66, f1 67, f1 68, f1 69, f1 70, f1 71, f1 72, f1 73, f1 74, f1 75, f1 76, f1 77, f1 78, f1 79, f1 80, f1 81, f1 82, f1 83, f1 84, f1 85, f1 86, f1 87, f1 88, f1 89, f1 90, f1 91, f1 92, f1 93, f1 94, f1 95, f1 96, f1 97, f1 98, f1 99, f1 100, f1 101, f1 102, f1 103, f1 104, f1 105, f1 106, f1 107, f1 108, f1 109, f1 110, f1 111, f1 112, f1 113, f1 114, f1 115, f1 116, f1 117, f1 118, f1 119, f1 120, f1 121, f1 122, f1 123, f1 124, f1 125, f1 126, f1 127, f1 128, f1 129, f1 130, f1 131, f1 132, f1 133, f1 134, f1 135, f1 136, f1 137, f1 138, f1 139, f1 140, f1 141, f1 142, f1 143, f1 144, f1 145, f1 146, f1 147, f1 148, f1 149, f1 150, f1 151, f1 152, f1 153, f1 154, f1 155, f1 156, f1 157, f1 158, f1 159, f1 160, f1 161, f1 162, f1 163, f1 164, f1 165, f1 166, f1 167, f1 168, f1 169, f1 170, f1 171, f1 172, f1 173, f1 174, f1 175, f1 176, f1 177, f1 178, f1 179, f1 180, f1 181, f1 182, f1 183, f1 184, f1 185, f1 186, f1 187, f1 188, f1 189, f1 190, f1 191, f1 192, f1 193, f1 194, f1 195, f1 196, f1 197, f1 198, f1 199, f1 200, f1 201, f1 202, f1 203, f1 204, f1 205, f1 206, f1 207, f1 208, f1 209, f1 210, f1 211, f1 212, f1 213, f1 214, f1 215, f1 216, f1 217, f1 218, f1 219, f1 220, f1 221, f1 222, f1 223, f1 224, f1 225, f1 226, f1 227, f1 228, f1 229, f1 230, f1 231, f1 232, f1 233, f1 234, f1 235, f1 236, f1 237, f1 238, f1 239, f1 240, f1 241, f1 242, f1 243, f1 244, f1 245, f1 246, f1 247, f1 248, f1 249, f1 250, f1 251, f1 252, f1 253, f1 254, f1 255, f1 256, f1 257, f1 258, f1 259, f1 260, f1 261, f1 262, f1 263, f1 264, f1 265, f1 266, f1 267, f1 268, f1 269, f1 270, f1 271, f1 272, f1 273, f1 274, f1 275, f1 276, f1 277, f1 278, f1 279, f1 280, f1 281, f1 282, f1 283, f1 284, f1 285, f1 286, f1 287, f1 288, f1 289, f1 290, f1 291, f1 292, f1 293, f1 294, f1 295, f1 296, f1 297, f1 298, f1 299, f1 300, f1 301, f1 302, f1 303, f1 304, f1 305, f1 306, f1 307, f1 308, f1 309, f1 310, f1 311, f1 312, f1 313, f1 314, f1 315, f1 316, f1 317, f1 318, f1 319, f1 320, f1 321, f1 322, f1 323, f1 324, f1 325, f1 326, f1 327, f1 328, f1 329, f1 330, f1 331, f1 332] from rfl]
      rw [frame_get q_2, frame_get q_10, frame_get q_12, frame_get q_13, frame_get q_15, frame_get q_16, frame_get q_69, frame_get q_70, frame_get q_71]
      clear q_2 q_10 q_12 q_13 q_15 q_16 q_69 q_70 q_71
      refine hK _ _ ?_
      clear hK K
      refine wp_seq_k (fun K hK => ?_)
      have ⟨t0, t1⟩ : -32768 ≤ tk ∧ tk ≤ 32767 := ⟨HL2.out.t0, HL2.out.t1⟩
      refine wp_part (part_when m1 x0 x1 t0 t1) ?_
      rintro a2 w2 ⟨q2, m2⟩
      obtain ⟨fd_, fs_, q_2, q_10, q_12, q_13, q_15, q_16, q_69, q_70, q_71⟩ := q2
      obtain ⟨f2, rfl⟩ := frame_open fd_ fs_
      clear fd_ fs_
      rw [show ((List.range 333).map f2).toArray = #[f2 0, f2 1, f2 2, f2 3, f2 4, f2 5, f2 6, f2 7, f2 8, f2 9, f2 10, f2 11, f2 12, f2 13, f2 14, f2 15, f2 16, f2 17, f2 18, f2 19, f2 20, f2 21, f2 22, f2 23, f2 24, f2 25, f2 26, f2 27, f2 28, f2 29, f2 30, f2 31, f2 32, f2 33, f2 34, f2 35, f2 36, f2 37, f2 38, f2 39, f2 40, f2 41, f2 42, f2 43, f2 44, f2 45, f2 46, f2 47, f2 48, f2 49, f2 50, f2 51, f2 52, f2 53, f2 54, f2 55, f2 56, f2 57, f2 58, f2 59, f2 60, f2 61, f2 62, f2 63, f2 64, f2 65, f2 66, f2 67, f2 68, f2 69, f2 70, f2 71, f2 72, f2 73, f2 74, f2 75, f2 76, f2 77, f2 78, f2 79, f2 80, f2 81, f2 82, f2 83, f2 84, f2 85, f2 86, f2 87, f2 88, f2 89, f2 90, f2 91, f2 92, f2 93, f2 94, f2 95, f2 96, f2 97, f2 98, f2 99, f2 100, f2 101, f2 102, f2 103, f2 104, f2 105, f2 106, f2 107, f2 108, f2 109, f2 110, f2 111, f2 112, f2 113, f2 114, f2 115, f2 116, f2 117, f2 118, f2 119, f2 120, f2 121, f2 122, f2 123, f2 124, f2 125, f2 126, f2 127, f2 128, f2 129, f2 130, f2 131, f2 132, f2 133, f2 134, f2 135, f2 136, f2 137, f2 138, f2 139, f2 140, f2 141, f2 142, f2 143, f2 144, f2 145, f2 146, f2 147, f2 148, f2 149, f2 150, f2 151, f2 152, f2 153, f2 154, f2 155, f2 156, f2 157, f2 158, f2 159, f2 160, f2 161, f2 162, f2 163, f2 164, f2 165, f2 166, f2 167, f2 168, f2 169, f2 170, f2 171, f2 172, f2 173, f2 174, f2 175, f2 176, f2 177, f2 178, f2 179, f2 180, f2 181, f2 182, f2 183, f2 184, f2 185, f2 186, f2 187, f2 188, f2 189, f2 190, f2 191, f2 192, f2 193, f2 194, f2 195, f2 196, f2 197, f2 198, f2 199, f2 200, f2 201, f2 202, f2 203, f2 204, f2 205, f2 206, f2 207, f2 208, f2 209, f2 210, f2 211, f2 212, f2 213, f2 214, f2 215, f2 216, f2 217, f2 218, f2 219, f2 220, f2 221, f2 222, f2 223, f2 224, f2 225, f2 226, f2 227, f2 228, f2 229, f2 230, f2 231, f2 232, f2 233, f2 234, f2 235, f2 236, f2 237, f2 238, f2 239, f2 240, f2 241, f2 242, f2 243, f2 244, f2 245, f2 246, f2 247, f2 248, f2 249, f2 250, f2 251, f2 252, f2 253, f2 254, f2 255, f2 256, f2 257, f2 258, f2 259, f2 260, f2 261, f2 262, f2 263, f2 264, f2 265, f2 266, f2 267, f2 268, f2 269, f2 270, f2 271, f2 272, f2 273, f2 274, f2 275, f2 276, f2 277, f2 278, f2 279, f2 280, f2 281, f2 282, f2 283, f2 284, f2 285, f2 286, f2 287, f2 288, f2 289, f2 290, f2 291, f2 292, f2 293, f2 294, f2 295, f2 296, f2 297, f2 298, f2 299, f2 300, f2 301, f2 302, f2 303, f2 304, f2 305, f2 306, f2 307, f2 308, f2 309, f2 310, f2 311, f2 312, f2 313, f2 314, f2 315, f2 316, f2 317, f2 318, f2 319, f2 320, f2 321, f2 322, f2 323, f2 324, f2 325, f2 326, f2 327, f2 328, f2 329, f2 330, f2 331, f2 332] from rfl]
      rw [frame_get q_2, frame_get q_10, frame_get q_12, frame_get q_13, frame_get q_15, frame_get q_16, frame_get q_69, frame_get q_70, frame_get q_71]
      clear q_2 q_10 q_12 q_13 q_15 q_16 q_69 q_70 q_71
      refine hK _ _ ?_
      clear hK K f1 m1
      refine wp_seq_k (fun K hK => ?_)
      refine wp_part (part_at m2) ?_
      rintro a3 w3 ⟨q3, m3⟩
      obtain ⟨fd_, fs_, q_2, q_10, q_12, q_13, q_15, q_16, q_17, q_69, q_70, q_71⟩ := q3
      obtain ⟨f3, rfl⟩ := frame_open fd_ fs_
      clear fd_ fs_
      rw [show ((List.range 333).map f3).toArray = #[f3 0, f3 1, f3 2, f3 3, f3 4, f3 5, f3 6, f3 7, f3 8, f3 9, f3 10, f3 11, f3 12, f3 13, f3 14, f3 15, f3 16, f3 17, f3 18, f3 19, f3 20, f3 21, f3 22, f3 23, f3 24, f3 25, f3 26, f3 27, f3 28, f3 29, f3 30, f3 31, f3 32, f3 33, f3 34, f3 35, f3 36, f3 37, f3 38, f3 39, f3 40, f3 41, f3 42, f3 43, f3 44, f3 45, f3 46, f3 47, f3 48, f3 49, f3 50, f3 51, f3 52, f3 53, f3 54, f3 55, f3 56, f3 57, f3 58, f3 59, f3 60, f3 61, f3 62, f3 63, f3 64, f3 65, f3 66, f3 67, f3 68, f3 69, f3 70, f3 71, f3 72, f3 73, f3 74, f3 75, f3 76, f3 77, f3 78, f3 79, f3 80, f3 81, f3 82, f3 83, f3 84, f3 85, f3 86, f3 87, f3 88, f3 89, f3 90, f3 91, f3 92, f3 93, f3 94, f3 95, f3 96, f3 97, f3 98, f3 99, f3 100, f3 101, f3 102, f3 103, f3 104, f3 105, f3 106, f3 107, f3 108, f3 109, f3 110, f3 111, f3 112, f3 113, f3 114, f3 115, f3 116, f3 117, f3 118, f3 119, f3 120, f3 121, f3 122, f3 123, f3 124, f3 125, f3 126, f3 127, f3 128, f3 129, f3 130, f3 131, f3 132, f3 133, f3 134, f3 135, f3 136, f3 137, f3 138, f3 139, f3 140, f3 141, f3 142, f3 143, f3 144, f3 145, f3 146, f3 147, f3 148, f3 149, f3 150, f3 151, f3 152, f3 153, f3 154, f3 155, f3 156, f3 157, f3 158, f3 159, f3 160, f3 161, f3 162, f3 163, f3 164, f3 165, f3 166, f3 167, f3 168, f3 169, f3 170, f3 171, f3 172, f3 173, f3 174, f3 175, f3 176, f3 177, f3 178, f3 179, f3 180, f3 181, f3 182, f3 183, f3 184, f3 185, f3 186, f3 187, f3 188, f3 189, f3 190, f3 191, f3 192, f3 193, f3 194, f3 195, f3 196, f3 197, f3 198, f3 199, f3 200, f3 201, f3 202, f3 203, f3 204, f3 205, f3 206, f3 207, f3 208, f3 209, f3 210, f3 211, f3 212, f3 213, f3 214, f3 215, f3 216, f3 217, f3 218, f3 219, f3 220, f3 221, f3 222, f3 223, f3 224, f3 225, f3 226, f3 227, f3 228, f3 229, f3 230, f3 231, f3 232, f3 233, f3 234, f3 235, f3 236, f3 237, f3 238, f3 239, f3 240, f3 241, f3 242, f3 243, f3 244, f3 245, f3 246, f3 247, f3 248, f3 249, f3 250, f3 251, f3 252, f3 253, f3 254, f3 255, f3 256, f3 257, f3 258, f3 259, f3 260, f3 261, f3 262, f3 263, f3 264, f3 265, f3 266, f3 267, f3 268, f3 269, f3 270, f3 271, f3 272, f3 273, f3 274, f3 275, f3 276, f3 277, f3 278, f3 279, f3 280, f3 281, f3 282, f3 283, f3 284, f3 285, f3 286, f3 287, f3 288, f3 289, f3 290, f3 291, f3 292, f3 293, f3 294, f3 295, f3 296, f3 297, f3 298, f3 299, f3 300, f3 301, f3 302, f3 303, f3 304, f3 305, f3 306, f3 307, f3 308, f3 309, f3 310, f3 311, f3 312, f3 313, f3 314, f3 315, f3 316, f3 317, f3 318, f3 319, f3 320, f3 321, f3 322, f3 323, f3 324, f3 325, f3 326, f3 327, f3 328, f3 329, f3 330, f3 331, f3 332] from rfl]
      rw [frame_get q_2, frame_get q_10, frame_get q_12, frame_get q_13, frame_get q_15, frame_get q_16, frame_get q_17, frame_get q_69, frame_get q_70, frame_get q_71]
      clear q_2 q_10 q_12 q_13 q_15 q_16 q_17 q_69 q_70 q_71
      refine hK _ _ ?_
      clear hK K f2 m2
      refine wp_seq_k (fun K hK => ?_)
      refine wp_part (part_port m3 Hgo.out.xl Hgo.out.xh hlo hlh hhi HL2.out.w0 HL2.out.w1) ?_
      rintro a4 w4 ⟨q4, m4⟩
      obtain ⟨fd_, fs_, q_2, q_10, q_12, q_13, q_15, q_16, q_17, q_18, q_69, q_70, q_71⟩ := q4
      obtain ⟨f4, rfl⟩ := frame_open fd_ fs_
      clear fd_ fs_
      rw [show ((List.range 333).map f4).toArray = #[f4 0, f4 1, f4 2, f4 3, f4 4, f4 5, f4 6, f4 7, f4 8, f4 9, f4 10, f4 11, f4 12, f4 13, f4 14, f4 15, f4 16, f4 17, f4 18, f4 19, f4 20, f4 21, f4 22, f4 23, f4 24, f4 25, f4 26, f4 27, f4 28, f4 29, f4 30, f4 31, f4 32, f4 33, f4 34, f4 35, f4 36, f4 37, f4 38, f4 39, f4 40, f4 41, f4 42, f4 43, f4 44, f4 45, f4 46, f4 47, f4 48, f4 49, f4 50, f4 51, f4 52, f4 53, f4 54, f4 55, f4 56, f4 57, f4 58, f4 59, f4 60, f4 61, f4 62, f4 63, f4 64, f4 65, f4 66, f4 67, f4 68, f4 69, f4 70, f4 71, f4 72, f4 73, f4 74, f4 75, f4 76, f4 77, f4 78, f4 79, f4 80, f4 81, f4 82, f4 83, f4 84, f4 85, f4 86, f4 87, f4 88, f4 89, f4 90, f4 91, f4 92, f4 93, f4 94, f4 95, f4 96, f4 97, f4 98, f4 99, f4 100, f4 101, f4 102, f4 103, f4 104, f4 105, f4 106, f4 107, f4 108, f4 109, f4 110, f4 111, f4 112, f4 113, f4 114, f4 115, f4 116, f4 117, f4 118, f4 119, f4 120, f4 121, f4 122, f4 123, f4 124, f4 125, f4 126, f4 127, f4 128, f4 129, f4 130, f4 131, f4 132, f4 133, f4 134, f4 135, f4 136, f4 137, f4 138, f4 139, f4 140, f4 141, f4 142, f4 143, f4 144, f4 145, f4 146, f4 147, f4 148, f4 149, f4 150, f4 151, f4 152, f4 153, f4 154, f4 155, f4 156, f4 157, f4 158, f4 159, f4 160, f4 161, f4 162, f4 163, f4 164, f4 165, f4 166, f4 167, f4 168, f4 169, f4 170, f4 171, f4 172, f4 173, f4 174, f4 175, f4 176, f4 177, f4 178, f4 179, f4 180, f4 181, f4 182, f4 183, f4 184, f4 185, f4 186, f4 187, f4 188, f4 189, f4 190, f4 191, f4 192, f4 193, f4 194, f4 195, f4 196, f4 197, f4 198, f4 199, f4 200, f4 201, f4 202, f4 203, f4 204, f4 205, f4 206, f4 207, f4 208, f4 209, f4 210, f4 211, f4 212, f4 213, f4 214, f4 215, f4 216, f4 217, f4 218, f4 219, f4 220, f4 221, f4 222, f4 223, f4 224, f4 225, f4 226, f4 227, f4 228, f4 229, f4 230, f4 231, f4 232, f4 233, f4 234, f4 235, f4 236, f4 237, f4 238, f4 239, f4 240, f4 241, f4 242, f4 243, f4 244, f4 245, f4 246, f4 247, f4 248, f4 249, f4 250, f4 251, f4 252, f4 253, f4 254, f4 255, f4 256, f4 257, f4 258, f4 259, f4 260, f4 261, f4 262, f4 263, f4 264, f4 265, f4 266, f4 267, f4 268, f4 269, f4 270, f4 271, f4 272, f4 273, f4 274, f4 275, f4 276, f4 277, f4 278, f4 279, f4 280, f4 281, f4 282, f4 283, f4 284, f4 285, f4 286, f4 287, f4 288, f4 289, f4 290, f4 291, f4 292, f4 293, f4 294, f4 295, f4 296, f4 297, f4 298, f4 299, f4 300, f4 301, f4 302, f4 303, f4 304, f4 305, f4 306, f4 307, f4 308, f4 309, f4 310, f4 311, f4 312, f4 313, f4 314, f4 315, f4 316, f4 317, f4 318, f4 319, f4 320, f4 321, f4 322, f4 323, f4 324, f4 325, f4 326, f4 327, f4 328, f4 329, f4 330, f4 331, f4 332] from rfl]
      rw [frame_get q_2, frame_get q_10, frame_get q_12, frame_get q_13, frame_get q_15, frame_get q_16, frame_get q_17, frame_get q_18, frame_get q_69, frame_get q_70, frame_get q_71]
      clear q_2 q_10 q_12 q_13 q_15 q_16 q_17 q_18 q_69 q_70 q_71
      refine hK _ _ ?_
      clear hK K f3 m3
      refine wp_seq_k (fun K hK => ?_)
      refine wp_part (part_kind m4 Hgo.out HL2.out ⟨hm0, by omega⟩) ?_
      rintro a5 w5 ⟨q5, p5, m5, hg5⟩
      obtain ⟨fd_, fs_, q_2, q_10, q_12, q_13, q_69, q_70, q_71⟩ := q5
      obtain ⟨f5, rfl⟩ := frame_open fd_ fs_
      clear fd_ fs_
      rw [show ((List.range 333).map f5).toArray = #[f5 0, f5 1, f5 2, f5 3, f5 4, f5 5, f5 6, f5 7, f5 8, f5 9, f5 10, f5 11, f5 12, f5 13, f5 14, f5 15, f5 16, f5 17, f5 18, f5 19, f5 20, f5 21, f5 22, f5 23, f5 24, f5 25, f5 26, f5 27, f5 28, f5 29, f5 30, f5 31, f5 32, f5 33, f5 34, f5 35, f5 36, f5 37, f5 38, f5 39, f5 40, f5 41, f5 42, f5 43, f5 44, f5 45, f5 46, f5 47, f5 48, f5 49, f5 50, f5 51, f5 52, f5 53, f5 54, f5 55, f5 56, f5 57, f5 58, f5 59, f5 60, f5 61, f5 62, f5 63, f5 64, f5 65, f5 66, f5 67, f5 68, f5 69, f5 70, f5 71, f5 72, f5 73, f5 74, f5 75, f5 76, f5 77, f5 78, f5 79, f5 80, f5 81, f5 82, f5 83, f5 84, f5 85, f5 86, f5 87, f5 88, f5 89, f5 90, f5 91, f5 92, f5 93, f5 94, f5 95, f5 96, f5 97, f5 98, f5 99, f5 100, f5 101, f5 102, f5 103, f5 104, f5 105, f5 106, f5 107, f5 108, f5 109, f5 110, f5 111, f5 112, f5 113, f5 114, f5 115, f5 116, f5 117, f5 118, f5 119, f5 120, f5 121, f5 122, f5 123, f5 124, f5 125, f5 126, f5 127, f5 128, f5 129, f5 130, f5 131, f5 132, f5 133, f5 134, f5 135, f5 136, f5 137, f5 138, f5 139, f5 140, f5 141, f5 142, f5 143, f5 144, f5 145, f5 146, f5 147, f5 148, f5 149, f5 150, f5 151, f5 152, f5 153, f5 154, f5 155, f5 156, f5 157, f5 158, f5 159, f5 160, f5 161, f5 162, f5 163, f5 164, f5 165, f5 166, f5 167, f5 168, f5 169, f5 170, f5 171, f5 172, f5 173, f5 174, f5 175, f5 176, f5 177, f5 178, f5 179, f5 180, f5 181, f5 182, f5 183, f5 184, f5 185, f5 186, f5 187, f5 188, f5 189, f5 190, f5 191, f5 192, f5 193, f5 194, f5 195, f5 196, f5 197, f5 198, f5 199, f5 200, f5 201, f5 202, f5 203, f5 204, f5 205, f5 206, f5 207, f5 208, f5 209, f5 210, f5 211, f5 212, f5 213, f5 214, f5 215, f5 216, f5 217, f5 218, f5 219, f5 220, f5 221, f5 222, f5 223, f5 224, f5 225, f5 226, f5 227, f5 228, f5 229, f5 230, f5 231, f5 232, f5 233, f5 234, f5 235, f5 236, f5 237, f5 238, f5 239, f5 240, f5 241, f5 242, f5 243, f5 244, f5 245, f5 246, f5 247, f5 248, f5 249, f5 250, f5 251, f5 252, f5 253, f5 254, f5 255, f5 256, f5 257, f5 258, f5 259, f5 260, f5 261, f5 262, f5 263, f5 264, f5 265, f5 266, f5 267, f5 268, f5 269, f5 270, f5 271, f5 272, f5 273, f5 274, f5 275, f5 276, f5 277, f5 278, f5 279, f5 280, f5 281, f5 282, f5 283, f5 284, f5 285, f5 286, f5 287, f5 288, f5 289, f5 290, f5 291, f5 292, f5 293, f5 294, f5 295, f5 296, f5 297, f5 298, f5 299, f5 300, f5 301, f5 302, f5 303, f5 304, f5 305, f5 306, f5 307, f5 308, f5 309, f5 310, f5 311, f5 312, f5 313, f5 314, f5 315, f5 316, f5 317, f5 318, f5 319, f5 320, f5 321, f5 322, f5 323, f5 324, f5 325, f5 326, f5 327, f5 328, f5 329, f5 330, f5 331, f5 332] from rfl]
      rw [frame_get q_2, frame_get q_10, frame_get q_12, frame_get q_13, frame_get q_69, frame_get q_70, frame_get q_71]
      clear q_2 q_10 q_12 q_13 q_69 q_70 q_71
      refine hK _ _ ?_
      clear hK K f4 m4
      have hn0 : 0 ≤ (noteStep x (kd, wh, tk)).2 ∧ (noteStep x (kd, wh, tk)).2 ≤ 1 := by
        unfold noteStep
        dsimp only
        split
        · split
          · simp
          · split <;> simp
        · split
          · split
            · simp
            · split <;> simp
          · split
            · split <;> simp
            · simp
      generalize hx' : (noteStep x (kd, wh, tk)).1 = x' at *
      generalize hm' : (noteStep x (kd, wh, tk)).2 = dm at *
      refine wp_part_q (part_look m5 hg5 hlo hlh hhi) ?_
      rintro a6 w6 ⟨q6, p6, m6, hg6⟩
      obtain ⟨fd_, fs_, q_2, q_10, q_12, q_13, q_69, q_70, q_71⟩ := q6
      obtain ⟨f6, rfl⟩ := frame_open fd_ fs_
      clear fd_ fs_
      rw [show ((List.range 333).map f6).toArray = #[f6 0, f6 1, f6 2, f6 3, f6 4, f6 5, f6 6, f6 7, f6 8, f6 9, f6 10, f6 11, f6 12, f6 13, f6 14, f6 15, f6 16, f6 17, f6 18, f6 19, f6 20, f6 21, f6 22, f6 23, f6 24, f6 25, f6 26, f6 27, f6 28, f6 29, f6 30, f6 31, f6 32, f6 33, f6 34, f6 35, f6 36, f6 37, f6 38, f6 39, f6 40, f6 41, f6 42, f6 43, f6 44, f6 45, f6 46, f6 47, f6 48, f6 49, f6 50, f6 51, f6 52, f6 53, f6 54, f6 55, f6 56, f6 57, f6 58, f6 59, f6 60, f6 61, f6 62, f6 63, f6 64, f6 65, f6 66, f6 67, f6 68, f6 69, f6 70, f6 71, f6 72, f6 73, f6 74, f6 75, f6 76, f6 77, f6 78, f6 79, f6 80, f6 81, f6 82, f6 83, f6 84, f6 85, f6 86, f6 87, f6 88, f6 89, f6 90, f6 91, f6 92, f6 93, f6 94, f6 95, f6 96, f6 97, f6 98, f6 99, f6 100, f6 101, f6 102, f6 103, f6 104, f6 105, f6 106, f6 107, f6 108, f6 109, f6 110, f6 111, f6 112, f6 113, f6 114, f6 115, f6 116, f6 117, f6 118, f6 119, f6 120, f6 121, f6 122, f6 123, f6 124, f6 125, f6 126, f6 127, f6 128, f6 129, f6 130, f6 131, f6 132, f6 133, f6 134, f6 135, f6 136, f6 137, f6 138, f6 139, f6 140, f6 141, f6 142, f6 143, f6 144, f6 145, f6 146, f6 147, f6 148, f6 149, f6 150, f6 151, f6 152, f6 153, f6 154, f6 155, f6 156, f6 157, f6 158, f6 159, f6 160, f6 161, f6 162, f6 163, f6 164, f6 165, f6 166, f6 167, f6 168, f6 169, f6 170, f6 171, f6 172, f6 173, f6 174, f6 175, f6 176, f6 177, f6 178, f6 179, f6 180, f6 181, f6 182, f6 183, f6 184, f6 185, f6 186, f6 187, f6 188, f6 189, f6 190, f6 191, f6 192, f6 193, f6 194, f6 195, f6 196, f6 197, f6 198, f6 199, f6 200, f6 201, f6 202, f6 203, f6 204, f6 205, f6 206, f6 207, f6 208, f6 209, f6 210, f6 211, f6 212, f6 213, f6 214, f6 215, f6 216, f6 217, f6 218, f6 219, f6 220, f6 221, f6 222, f6 223, f6 224, f6 225, f6 226, f6 227, f6 228, f6 229, f6 230, f6 231, f6 232, f6 233, f6 234, f6 235, f6 236, f6 237, f6 238, f6 239, f6 240, f6 241, f6 242, f6 243, f6 244, f6 245, f6 246, f6 247, f6 248, f6 249, f6 250, f6 251, f6 252, f6 253, f6 254, f6 255, f6 256, f6 257, f6 258, f6 259, f6 260, f6 261, f6 262, f6 263, f6 264, f6 265, f6 266, f6 267, f6 268, f6 269, f6 270, f6 271, f6 272, f6 273, f6 274, f6 275, f6 276, f6 277, f6 278, f6 279, f6 280, f6 281, f6 282, f6 283, f6 284, f6 285, f6 286, f6 287, f6 288, f6 289, f6 290, f6 291, f6 292, f6 293, f6 294, f6 295, f6 296, f6 297, f6 298, f6 299, f6 300, f6 301, f6 302, f6 303, f6 304, f6 305, f6 306, f6 307, f6 308, f6 309, f6 310, f6 311, f6 312, f6 313, f6 314, f6 315, f6 316, f6 317, f6 318, f6 319, f6 320, f6 321, f6 322, f6 323, f6 324, f6 325, f6 326, f6 327, f6 328, f6 329, f6 330, f6 331, f6 332] from rfl]
      rw [frame_get q_2, frame_get q_10, frame_get q_12, frame_get q_13, frame_get q_69, frame_get q_70, frame_get q_71]
      clear q_2 q_10 q_12 q_13 q_69 q_70 q_71
      clear f5 m5 hg5
      have S6 := Lib.hid m6
      have G6 := Lib.hid hg6
      clear m6 hg6
      go_wp2_with (fail)
      exact ⟨l.length - (i + 1), by omega, i + 1, _, _, _, ⟨rfl, rfl, rfl, rfl, rfl, rfl, rfl, rfl, rfl⟩, rfl, by omega, by have := Hmany.out; omega, by omega, by omega, G6.out, S6.out⟩
    · have he : i = l.length := by omega
      subst he
      simp only [List.drop_length, noteRun, Int.add_zero] at hmany
      subst hmany
      go_wp2_with (fail)
      go_ret2
      exact ⟨rfl, hst.bel⟩
end Go.Proofs.Ytnpmelonkcgpgab

