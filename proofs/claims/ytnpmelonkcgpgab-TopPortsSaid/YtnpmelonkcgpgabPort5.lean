/- ported11, the look behind each act. -/
import Derived.Test.YtnpmelonkcgpgabPort4
namespace Go.Proofs.Ytnpmelonkcgpgab
open Go.RowKit
set_option linter.unusedVariables false
set_option linter.unusedSimpArgs false

section
variable {w wr w0 w1 w2 : World} {pb pt pu xb xt xf bb c n i : Nat} {A : Option Addr} {p pc : PoolS} {x y : NoteS} {lo hi rest many kd wh tk : Int}


set_option maxRecDepth 100000 in
set_option maxHeartbeats 1000000 in
theorem part_look {u0 u1 u3 u4 u5 u6 u7 u8 u9 u11 u14 u15 u16 u17 u18 u19 u20 u21 u22 u23 u24 u25 u26 u27 u28 u29 u30 u31 u32 u33 u34 u35 u36 u37 u38 u39 u40 u41 u42 u43 u44 u45 u46 u47 u48 u49 u50 u51 u52 u53 u54 u55 u56 u57 u58 u59 u60 u61 u62 u63 u64 u65 u66 u67 u68 u72 u73 u74 u75 u76 u77 u78 u79 u80 u81 u82 u83 u84 u85 u86 u87 u88 u89 u90 u91 u92 u93 u94 u95 u96 u97 u98 u99 u100 u101 u102 u103 u104 u105 u106 u107 u108 u109 u110 u111 u112 u113 u114 u115 u116 u117 u118 u119 u120 u121 u122 u123 u124 u125 u126 u127 u128 u129 u130 u131 u132 u133 u134 u135 u136 u137 u138 u139 u140 u141 u142 u143 u144 u145 u146 u147 u148 u149 u150 u151 u152 u153 u154 u155 u156 u157 u158 u159 u160 u161 u162 u163 u164 u165 u166 u167 u168 u169 u170 u171 u172 u173 u174 u175 u176 u177 u178 u179 u180 u181 u182 u183 u184 u185 u186 u187 u188 u189 u190 u191 u192 u193 u194 u195 u196 u197 u198 u199 u200 u201 u202 u203 u204 u205 u206 u207 u208 u209 u210 u211 u212 u213 u214 u215 u216 u217 u218 u219 u220 u221 u222 u223 u224 u225 u226 u227 u228 u229 u230 u231 u232 u233 u234 u235 u236 u237 u238 u239 u240 u241 u242 u243 u244 u245 u246 u247 u248 u249 u250 u251 u252 u253 u254 u255 u256 u257 u258 u259 u260 u261 u262 u263 u264 u265 u266 u267 u268 u269 u270 u271 u272 u273 u274 u275 u276 u277 u278 u279 u280 u281 u282 u283 u284 u285 u286 u287 u288 u289 u290 u291 u292 u293 u294 u295 u296 u297 u298 u299 u300 u301 u302 u303 u304 u305 u306 u307 u308 u309 u310 u311 u312 u313 u314 u315 u316 u317 u318 u319 u320 u321 u322 u323 u324 u325 u326 u327 u328 u329 u330 u331 u332 : Value} (h : St w wr pb pt pu xb xt xf p x) (hg : Goes lo hi rest p x) (l0 : 0 < lo) (l1 : lo ≤ hi) (l2 : hi ≤ 60020) :
    Code.wp Try.prog (codeAt (fbody Try.f5) [1,1,1,1,1,1,0,1,0,0,1,1,0,0,1,1,1,1,1,1]) (Exit.then (Out (fun a' => (a'.defers = [] ∧ a'.tmps.size = 333 ∧ a'.tmps[2]? = some (.int .u64 rest) ∧ a'.tmps[10]? = some (.pointer (some ⟨pb, 0, none⟩)) ∧ a'.tmps[12]? = some (.pointer (some ⟨xb, 0, none⟩)) ∧ a'.tmps[13]? = some (.int .i64 many) ∧ a'.tmps[69]? = some (.slice A n c) ∧ a'.tmps[70]? = some (.int .i64 n) ∧ a'.tmps[71]? = some (.int .i64 i))) (fun w' => Did w w' pb pt pu xb xt xf lo hi rest x)) Never) (⟨#[u0, u1, .int .u64 rest, u3, u4, u5, u6, u7, u8, u9, .pointer (some ⟨pb, 0, none⟩), u11, .pointer (some ⟨xb, 0, none⟩), .int .i64 many, u14, u15, u16, u17, u18, u19, u20, u21, u22, u23, u24, u25, u26, u27, u28, u29, u30, u31, u32, u33, u34, u35, u36, u37, u38, u39, u40, u41, u42, u43, u44, u45, u46, u47, u48, u49, u50, u51, u52, u53, u54, u55, u56, u57, u58, u59, u60, u61, u62, u63, u64, u65, u66, u67, u68, .slice A n c, .int .i64 n, .int .i64 i, u72, u73, u74, u75, u76, u77, u78, u79, u80, u81, u82, u83, u84, u85, u86, u87, u88, u89, u90, u91, u92, u93, u94, u95, u96, u97, u98, u99, u100, u101, u102, u103, u104, u105, u106, u107, u108, u109, u110, u111, u112, u113, u114, u115, u116, u117, u118, u119, u120, u121, u122, u123, u124, u125, u126, u127, u128, u129, u130, u131, u132, u133, u134, u135, u136, u137, u138, u139, u140, u141, u142, u143, u144, u145, u146, u147, u148, u149, u150, u151, u152, u153, u154, u155, u156, u157, u158, u159, u160, u161, u162, u163, u164, u165, u166, u167, u168, u169, u170, u171, u172, u173, u174, u175, u176, u177, u178, u179, u180, u181, u182, u183, u184, u185, u186, u187, u188, u189, u190, u191, u192, u193, u194, u195, u196, u197, u198, u199, u200, u201, u202, u203, u204, u205, u206, u207, u208, u209, u210, u211, u212, u213, u214, u215, u216, u217, u218, u219, u220, u221, u222, u223, u224, u225, u226, u227, u228, u229, u230, u231, u232, u233, u234, u235, u236, u237, u238, u239, u240, u241, u242, u243, u244, u245, u246, u247, u248, u249, u250, u251, u252, u253, u254, u255, u256, u257, u258, u259, u260, u261, u262, u263, u264, u265, u266, u267, u268, u269, u270, u271, u272, u273, u274, u275, u276, u277, u278, u279, u280, u281, u282, u283, u284, u285, u286, u287, u288, u289, u290, u291, u292, u293, u294, u295, u296, u297, u298, u299, u300, u301, u302, u303, u304, u305, u306, u307, u308, u309, u310, u311, u312, u313, u314, u315, u316, u317, u318, u319, u320, u321, u322, u323, u324, u325, u326, u327, u328, u329, u330, u331, u332], []⟩ : Act) wr := by
  obtain ⟨n0, n1, n2, n3, n4, n5, n6⟩ := h.note.cells
  rw [hg.xl] at n0
  rw [hg.xh] at n1
  obtain ⟨N, hN⟩ : ∃ N : Nat, (N : Int) = hi - lo + 3 := ⟨(hi - lo + 3).toNat, by omega⟩
  have hcount := Lib.hid (hg.count l1 N (by omega))
  have htk := Lib.hid hg.tk
  have H := Lib.hid h
  have Hg := Lib.hid hg
  clear h hg n2 n4 n5 n6
  conv => arg 2; whnf
  go_wp2_with (fail)
  go_loopw [32, 33] (fun s t w' => ∃ (j : Nat), j ≤ N ∧ s = .int .i64 (takenTo (fun k => aget k false x.taken) (lo - 1) j) ∧ t = .int .i64 (lo - 1 + j) ∧ St w w' pb pt pu xb xt xf p x) (fun _ t _ => (hi + 2 - intOf t).toNat)
  case atStart => exact ⟨0, by omega, rfl, by simp, H.out⟩
  case round =>
    obtain ⟨j, hj, rfl, rfl, hz⟩ := hrel
    clear n0 n1 n3
    obtain ⟨n0, n1, n2, n3, n4, n5, n6⟩ := hz.note.cells
    rw [Hg.out.xl] at n0
    rw [Hg.out.xh] at n1
    have Hz := Lib.hid hz
    have L := fun k => hz.note.2.1.look (int_key (P := Try.prog) Try.underlying3) Try.underlying40 zero4 k
    have L2 := fun k m => (hz.note.2.1.drewN m).look (int_key (P := Try.prog) Try.underlying3) Try.underlying40 zero4 k
    clear hz n2 n4 n5 n6
    have hle := takenTo_le (fun k => aget k false x.taken) (lo - 1) j
    by_cases hlt : j < N
    · have lk := L (lo - 1 + j)
      have lk2 := L2 (lo - 1 + j)
      clear L L2
      have hT := Lib.hid (show takenTo (fun k => aget k false x.taken) (lo - 1) (j + 1) = if aget (lo - 1 + (j : Int)) false x.taken then takenTo (fun k => aget k false x.taken) (lo - 1) j + 1 else takenTo (fun k => aget k false x.taken) (lo - 1) j from rfl)
      have hv := htk.out (lo - 1 + j)
      generalize takenTo (fun k => aget k false x.taken) (lo - 1) j = tt at *
      have e1 : IntKind.u16.wrap (lo - 1 + j) = lo - 1 + j := IntWalk.u16_in _ (by omega)
      cases hb : aget (lo - 1 + (j : Int)) false x.taken
      all_goals
        rw [hb] at lk lk2 hv hT
        have Hv := Lib.hid hv
        clear hb hv
        go_wp2_with (fail)
        go_quiet (first
                 | (go_at_call 13
                    go_loud (
                     have hp := Hz.out.pool
                     have hq := fun w (h : PoolAt w pb pt pu p) => taken_any _ _ _ p (lo - 1 + j) w h
                     rw [Hv.out] at hq
                     exact Calls.quiet_of_same ((hq _ (hp.drewN _)).mono (by rintro e w' ⟨rfl, rfl⟩; exact ⟨rfl, rfl⟩)))))
        go_wp2_with (fail)
        go_roundw
        case rel => exact ⟨j + 1, by omega, by rw [hT.out]; go_num, by go_num, Hz.out.drewN _⟩
        case measure => simp [intOf]; omega
    · have hjn : j = N := by omega
      subst hjn
      have hc := hcount.out
      clear L L2
      generalize takenTo (fun k => aget k false x.taken) (lo - 1) j = tt at *
      go_wp2_with (go_at_call 14
                   go_loud (
                    have hp := Hz.out.pool
                    have hq := count_any _ _ _ p _ hp
                    rw [← hc] at hq
                    (with_reducible refine hq.mono ?_)
                    clear hp hq
                    rintro e w' ⟨rfl, rfl⟩))
      exact ⟨⟨rfl, rfl, rfl, rfl, rfl, rfl, rfl, rfl, rfl⟩, ⟨_, Hz.out, Hg.out⟩⟩
end
end Go.Proofs.Ytnpmelonkcgpgab

