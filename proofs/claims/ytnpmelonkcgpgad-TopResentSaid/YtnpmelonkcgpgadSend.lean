/- The sender's buffer: pieces that were not sent yet. -/
import Derived.Test.YtnpmelonkcgpgadPcs
import Derived.Test.YtnpmelonkcgpgadParts
namespace Go.Proofs.Ytnpmelonkcgpgad
open Go.RowKit
set_option linter.unusedVariables false
set_option linter.unusedSimpArgs false
attribute [local go_sem ↓] Go.wp_at_zero Go.wp_at_succ

section
variable {w w' : World} {b : Nat} {q : BufS}
theorem send_may (w : World) (h : BufAt w b q) (hi : BufIn q) (mss : Int) (hm : mayB mss = false) :
    Calls Try.prog 8 #[.pointer (some ⟨b, 0, none⟩), .int .i64 mss] w fun e w' => e = .returned (.tuple #[.slice none 0 0, .int .i64 1]) ∧ Below w.heap.size w w' := by
  have h1 := h.grow ((bel_alloc (.cells #[.pointer (some ⟨b, 0, none⟩)] 30)).trans ((bel_alloc (.cells #[.int .i64 mss] 3)).mono (by simp)))
  have N := Lib.hid (none_any _ h1 hi)
  have M0 := fun w => may_b mss w
  rw [hm] at M0
  have M := Lib.hid M0
  clear M0 hm h h1
  go_enter Try.func8, Try.ntmps8
  go_wp2_with (first
    | (go_at_call 15; (with_reducible refine N.out.mono ?_); rintro e w' ⟨rfl, rfl⟩)
    | (go_at_call 18; (with_reducible refine (M.out _).mono ?_); rintro e w' ⟨rfl, rfl⟩))
  go_ret2
  exact ⟨rfl, (bel_alloc _).trans ((bel_alloc _).mono (by simp))⟩

/-- Between two pieces. -/
structure SendI (w : World) (b n2 n3 n6 B : Nat) (q : BufS) (mss en : Int) (g : Nat) (a : Act) (wr : World) (s : Int) (f : Nat) (done : List (Int × Int)) (vs : List (Int × Value)) (v : Value) : Prop where
  known : (a.defers = [] ∧ a.tmps.size = 52 ∧ a.tmps[2]? = some (.pointer (some ⟨n2, 0, none⟩)) ∧ a.tmps[3]? = some (.pointer (some ⟨n3, 0, none⟩)) ∧ a.tmps[6]? = some (.pointer (some ⟨n6, 0, none⟩)) ∧ a.tmps[7]? = some (v) ∧ a.tmps[8]? = some (.func (.func 19) #[] #[.pointer (some ⟨n2, 0, none⟩), .pointer (some ⟨n3, 0, none⟩), .pointer (some ⟨n6, 0, none⟩)]))
  gg : g = (en - s).toNat
  s0 : q.sent ≤ s
  s1 : s ≤ max q.sent en
  cut : cuts mss 16384 q.sent en = done ++ cuts mss f s en
  fuel : en - s ≤ f
  buf : BufAt wr b { q with sent := s }
  b2 : Blk wr n2 30 #[.pointer (some ⟨b, 0, none⟩)]
  b3 : Blk wr n3 3 #[.int .i64 mss]
  b6 : Blk wr n6 3 #[.int .i64 en]
  own : OwN wr B 42 2 v done.length (pcCells vs)
  pcs : Pcs wr B v.ownBlock vs (done.map (pieceOf q))
  only : Only [b] w wr
  base : w.heap.size ≤ B ∧ B ≤ wr.heap.size ∧ n2 < B ∧ n3 < B ∧ n6 < B ∧ b < w.heap.size ∧ w.heap.size ≤ n2 ∧ w.heap.size ≤ n3 ∧ w.heap.size ≤ n6
def SendJ (w : World) (b n2 n3 n6 B : Nat) (q : BufS) (mss en : Int) (g : Nat) (a : Act) (wr : World) : Prop := ∃ s f done vs v, SendI w b n2 n3 n6 B q mss en g a wr s f done vs v

theorem send_end {u0 u1 u3 u4 u5 u6 u7 u8 u9 u10 u11 u12 u13 u14 u15 u16 u17 u18 u19 u20 u21 u22 u23 u24 u25 u26 u27 u28 u29 u30 u31 u32 u33 u34 u35 u36 u37 u38 u39 u40 u41 u42 u43 u44 u45 u46 u47 u48 u49 u50 u51 : Value} (W : World) (n2 : Nat) (l1 : q.data.length ≤ 16384) (w0 : 0 ≤ q.window) (w1 : q.window ≤ 1073741824) (d2 : W.cell? ⟨n2, 0, none⟩ = some (.pointer (some ⟨b, 0, none⟩))) (c0 : W.cell? ⟨b, 0, none⟩ = some (.slice q.A q.data.length q.cap)) (c3 : W.cell? ⟨b, 3, none⟩ = some (.int .u32 q.window)) :
    Code.wp Try.prog (codeAt (fbody Try.f8) [1,1,0]) (Exit.then (Out (fun a' => (a'.defers = [] ∧ a'.tmps.size = 52 ∧ a'.tmps[2]? = some (.pointer (some ⟨n2, 0, none⟩)) ∧ a'.tmps[3]? = some (u3) ∧ a'.tmps[6]? = some (.pointer (some ⟨W.heap.size, 0, none⟩)))) (fun w' => w' = (W.alloc (.cells #[.int .i64 (min (q.data.length : Int) q.window)] 3)).drew)) Never) (⟨#[u0, u1, .pointer (some ⟨n2, 0, none⟩), u3, u4, u5, u6, u7, u8, u9, u10, u11, u12, u13, u14, u15, u16, u17, u18, u19, u20, u21, u22, u23, u24, u25, u26, u27, u28, u29, u30, u31, u32, u33, u34, u35, u36, u37, u38, u39, u40, u41, u42, u43, u44, u45, u46, u47, u48, u49, u50, u51], []⟩ : Act) W := by
  have e1 : IntKind.i64.wrap q.window = q.window := IntWalk.i64_in _ (by omega)
  conv => arg 2; whnf
  go_region_held3 (fun w' => w'.cell? ⟨n2, 0, none⟩ = some (.pointer (some ⟨b, 0, none⟩)) ∧ w'.cell? ⟨b, 0, none⟩ = some (.slice q.A q.data.length q.cap) ∧ w'.cell? ⟨b, 3, none⟩ = some (.int .u32 q.window)) (first | go_keep) (fail)
  all_goals
    try go_wp2_with (fail)
    exact ⟨⟨rfl, rfl, rfl, rfl, rfl⟩, rfl⟩

set_option maxHeartbeats 4000000 in
theorem send_ok (w : World) (h : BufAt w b q) (hi : BufIn q) (mss : Int) (hm : mayB mss = true) :
    Calls Try.prog 8 #[.pointer (some ⟨b, 0, none⟩), .int .i64 mss] w fun e w' => ∃ A c vs, e = .returned (.tuple #[.slice A (cuts mss 16384 q.sent (min (q.data.length : Int) q.window)).length c, .int .i64 0]) ∧ Sl w' A (pcCells vs) ∧
      PcsR w' w.heap.size vs ((cuts mss 16384 q.sent (min (q.data.length : Int) q.window)).map (pieceOf q)) ∧ BufAt w' b q.send ∧ Only [b] w w' ∧ ∀ a, A = some a → w.heap.size ≤ a.block := by
  have hbl := h.blk.lt
  have hAb : Hid (0 < q.data.length → ∀ a, q.A = some a → a.block < w.heap.size) := Lib.hid (fun hl a ha => by
    obtain ⟨bb, oo, hA, hc⟩ := h.sl (by simpa using hl)
    obtain rfl := Option.some.inj (ha.symm.trans hA)
    exact cell_lt (hc 0 _ (by rw [List.getElem?_eq_getElem (by simpa using hl)])))
  have k1 : Below w.heap.size w (w.alloc (.cells #[.pointer (some ⟨b, 0, none⟩)] 30)) := bel_alloc _
  have k2 : Below w.heap.size w ((w.alloc (.cells #[.pointer (some ⟨b, 0, none⟩)] 30)).alloc (.cells #[.int .i64 mss] 3)) := k1.trans ((bel_alloc _).mono (by simp))
  have h1 := h.grow k2
  have g2 := (Blk.new w 30 #[.pointer (some ⟨b, 0, none⟩)]).alloc (.cells #[.int .i64 mss] 3)
  have g3 := Blk.new_at (n := w.heap.size + 1) (w.alloc (.cells #[.pointer (some ⟨b, 0, none⟩)] 30)) 3 #[.int .i64 mss] (by simp)
  have hsz : ((w.alloc (.cells #[.pointer (some ⟨b, 0, none⟩)] 30)).alloc (.cells #[.int .i64 mss] 3)).heap.size = w.heap.size + 2 := by simp
  have N := Lib.hid (none_any _ h1 hi)
  have M0 := fun w => may_b mss w
  rw [hm] at M0
  have M := Lib.hid M0
  have l1 := hi.l1
  have w0 := hi.w0
  have w1 := hi.w1
  have m2 : 1 ≤ mss ∧ mss ≤ 1500 := by unfold mayB at hm; simpa using hm
  obtain ⟨m3, m4⟩ := m2
  obtain ⟨n2, hn2⟩ : ∃ n2, n2 = w.heap.size := ⟨_, rfl⟩
  obtain ⟨n3, hn3⟩ : ∃ n3, n3 = w.heap.size + 1 := ⟨_, rfl⟩
  rw [← hn2] at g2
  rw [← hn3] at g3
  have HN := Lib.hid (And.intro hn2 hn3)
  clear M0 h hm k1
  go_enter Try.func8, Try.ntmps8
  go_wp2_with (fail)
  rw [← hn3, ← hn2]
  clear hn2 hn3
  generalize hW : (w.alloc (.cells #[.pointer (some ⟨b, 0, none⟩)] 30)).alloc (.cells #[.int .i64 mss] 3) = W at *
  have HW := Lib.hid hW
  have HS := Lib.hid hsz
  clear hW hsz
  obtain ⟨c0, c1, c2, c3, c4, c5, c6, c7, c8⟩ := h1.cells
  have d2 : W.cell? ⟨n2, 0, none⟩ = some (.pointer (some ⟨b, 0, none⟩)) := g2.cell 0
  have d3 : W.cell? ⟨n3, 0, none⟩ = some (.int .i64 mss) := g3.cell 0
  have HF := Lib.hid (And.intro h1 (And.intro g2 (And.intro g3 k2)))
  clear h1 g2 g3 k2 c1 c2 c4 c5 c6 c7 c8
  go_wp2_with (first
    | (go_at_call 15; (with_reducible refine N.out.mono ?_); rintro e w' ⟨rfl, rfl⟩)
    | (go_at_call 18; (with_reducible refine (M.out _).mono ?_); rintro e w' ⟨rfl, rfl⟩))
  rename_i K hK
  refine wp_part (send_end W n2 l1 w0 w1 d2 c0 c3) ?_
  rintro a1 w1' ⟨q1, rfl⟩
  obtain ⟨fd_, fs_, q_2, q_3, q_6⟩ := q1
  obtain ⟨f1, rfl⟩ := frame_open fd_ fs_
  clear fd_ fs_
  rw [show ((List.range 52).map f1).toArray = #[f1 0, f1 1, f1 2, f1 3, f1 4, f1 5, f1 6, f1 7, f1 8, f1 9, f1 10, f1 11, f1 12, f1 13, f1 14, f1 15, f1 16, f1 17, f1 18, f1 19, f1 20, f1 21, f1 22, f1 23, f1 24, f1 25, f1 26, f1 27, f1 28, f1 29, f1 30, f1 31, f1 32, f1 33, f1 34, f1 35, f1 36, f1 37, f1 38, f1 39, f1 40, f1 41, f1 42, f1 43, f1 44, f1 45, f1 46, f1 47, f1 48, f1 49, f1 50, f1 51] from rfl]
  rw [frame_get q_2, frame_get q_3, frame_get q_6]
  clear q_2 q_3 q_6
  refine hK _ _ ?_
  clear hK K
  go_wp2_with (fail)
  obtain ⟨h1, g2, g3, k2⟩ := HF.out
  have hWs := HS.out
  have hnn := HN.out
  generalize hen : min (q.data.length : Int) q.window = en at *
  have b6 : Blk (W.alloc (.cells #[.int .i64 en] 3)) W.heap.size 3 #[.int .i64 en] := Blk.new W 3 _
  have kk : Below W.heap.size W (W.alloc (.cells #[.int .i64 en] 3)) := bel_alloc _
  have hsz3 : (W.alloc (.cells #[.int .i64 en] 3)).drew.heap.size = W.heap.size + 1 := by simp
  have hs1' := hi.s1
  have hs0' := hi.s0
  refine wp_loop_nxt (SendJ w b n2 n3 W.heap.size (W.heap.size + 1) q mss en) (en - q.sent).toNat ?_ ?_
  · refine ⟨q.sent, 16384, [], [], .slice none 0 0, ?_⟩
    exact { known := ⟨rfl, rfl, rfl, rfl, rfl, rfl, rfl⟩, gg := rfl, s0 := Int.le_refl _, s1 := by omega, cut := rfl, fuel := by omega, buf := (h1.grow kk).drew, b2 := (g2.alloc _).drew, b3 := (g3.alloc _).drew, b6 := b6.drew, own := OwN.nil _ _ _ _, pcs := trivial, only := (Only.below (k2.trans (kk.mono (by omega)))).drew, base := by rw [hsz3]; omega }
  · generalize W.heap.size = n6 at *
    generalize hB : n6 + 1 = B at *
    have HQ := Lib.hid hi
    have Hen := Lib.hid hen
    clear HF h1 g2 g3 k2 b6 kk hsz3 hB HW HS N M c0 c3 d2 d3 hnn HN hWs hi hen
    rintro g a0 wr ⟨s, f, done, vs, v, q0, rfl, hs0, hs1, hcut, hfuel, hbuf, hb2, hb3, hb6, hown, hpcs, honly, hbase⟩
    have q0s := HQ.out.s0
    have hiS : Hid (BufIn { q with sent := s }) := Lib.hid ⟨HQ.out.u0, HQ.out.u1, by simp only; omega, by simp only; have := Hen.out; omega, HQ.out.l1, HQ.out.w0, HQ.out.w1, HQ.out.r0, HQ.out.r1⟩
    by_cases hlt : s < en
    · have tok : True := trivial
      obtain ⟨fd_, fs_, q_2, q_3, q_6, q_7, q_8⟩ := q0
      obtain ⟨f0, rfl⟩ := frame_open fd_ fs_
      clear fd_ fs_
      rw [show ((List.range 52).map f0).toArray = #[f0 0, f0 1, f0 2, f0 3, f0 4, f0 5, f0 6, f0 7, f0 8, f0 9, f0 10, f0 11, f0 12, f0 13, f0 14, f0 15, f0 16, f0 17, f0 18, f0 19, f0 20, f0 21, f0 22, f0 23, f0 24, f0 25, f0 26, f0 27, f0 28, f0 29, f0 30, f0 31, f0 32, f0 33, f0 34, f0 35, f0 36, f0 37, f0 38, f0 39, f0 40, f0 41, f0 42, f0 43, f0 44, f0 45, f0 46, f0 47, f0 48, f0 49, f0 50, f0 51] from rfl]
      rw [frame_get q_2, frame_get q_3, frame_get q_6, frame_get q_7, frame_get q_8]
      clear q_2 q_3 q_6 q_7 q_8
      obtain ⟨f, rfl⟩ : ∃ f', f = f' + 1 := ⟨f - 1, by omega⟩
      obtain ⟨tx, hto⟩ : ∃ tx, tx = min (s + mss) en := ⟨_, rfl⟩
      have hcut' : cuts mss 16384 q.sent en = (done ++ [(s, tx)]) ++ cuts mss f tx en := by
        rw [hcut, hto, List.append_assoc]; congr 1; show cuts mss (f + 1) s en = _; rw [cuts, if_pos hlt]; rfl
      have hdl : done.length ≤ 16384 := by
        have e := congrArg List.length hcut
        have := cuts_length mss m3 16384 q.sent en
        rw [List.length_append] at e
        have h2 := Hen.out
        have h3 := HQ.out.l1
        omega
      have hNX := next_any wr.drew n2 n3 n6 hbuf.drew hiS.out mss en (by exact hb2.cell 0) (by exact hb3.cell 0) (by exact hb6.cell 0) (by omega) m4
      simp only at hNX
      rw [← hto] at hNX
      have NX := Lib.hid hNX
      have hp := piece_int _ hbuf.drew.drew.drew hiS.out s tx (by omega) (by omega) (by simp only; have := Hen.out; omega)
      have HP := Lib.hid hp
      have e2 := hb2.cell 0
      have e6 := hb6.cell 0
      have es := hbuf.cells.2.2.1
      simp only at es
      have e2' : wr.cell? ⟨n2, 0, none⟩ = some (.pointer (some ⟨b, 0, none⟩)) := e2
      have e6' : wr.cell? ⟨n6, 0, none⟩ = some (.int .i64 en) := e6
      have Hto := Lib.hid hto
      have HC := Lib.hid hcut'
      have HR := Lib.hid (And.intro hbuf (And.intro hb2 (And.intro hb3 (And.intro hb6 (And.intro hown (And.intro hpcs honly))))))
      have Hbase := Lib.hid hbase
      have HF := Lib.hid hfuel
      have HDL := Lib.hid hdl
      clear hNX hp hto hcut' hbuf hb2 hb3 hb6 hown hpcs honly hbase hfuel hcut e2 e6 hdl
      go_wp2_with (fail)
      refine wp_still_tail 5 (by kernel_rfl) (by kernel_rfl) ?_
      simp only [List.take_succ_cons, List.take_zero, List.drop_succ_cons, List.drop_zero]
      repeat still_step
      refine wpStill_nil ?_
      go_wp2_with (first
        | (go_at_call 19; go_loud ((with_reducible refine NX.out.mono ?_); rintro e w' ⟨rfl, rfl⟩)))
      go_region_held3 (fun w' => w'.cell? ⟨n2, 0, none⟩ = some (.pointer (some ⟨b, 0, none⟩)) ∧ w'.cell? ⟨b, 2, none⟩ = some (.int .i64 s)) (first | exact K0 | exact K1 | exact K2 | go_keep) (first
        | (go_at_call 20
           go_loud (
            (with_reducible refine HP.out.mono ?_)
            rintro e w3 ⟨v', rfl, ho, hb⟩
            obtain ⟨A', c', hv, _⟩ := ho.form
            generalize (bs (((q.data.take tx.toNat)).drop s.toNat)).length = ln at hv
            subst hv
            obtain ⟨hbuf, hb2, hb3, hb6, hown, hpcs, honly⟩ := HR.out
            obtain ⟨hB1, hB2, hB3, hB4, hB5, hB6, hB7, hB8, hB9⟩ := Hbase.out
            have hz3 : wr.heap.size ≤ w3.heap.size := hb.size
            have hb' : Below wr.heap.size wr w3 := ⟨hb.os, hb.tape, hb.output, hb.size, hb.block⟩
            obtain ⟨pi, pi1, pi2, pi3, pi4⟩ := pc_info
            have hown3 := (hown.below hb').below (bel_alloc (.cells #[.int .u32 ((q.una + s) % 4294967296), .slice A' ln c'] 42))
            have hnew := Blk.new w3 42 #[.int .u32 ((q.una + s) % 4294967296), .slice A' ln c']
            have hy : Sl (w3.alloc (.cells #[.int .u32 ((q.una + s) % 4294967296), .slice A' ln c'] 42)) (some ⟨w3.heap.size, 0, none⟩) [.int .u32 ((q.una + s) % 4294967296), .slice A' ln c'] :=
              fun _ => ⟨_, 0, rfl, fun j u hj => by rw [Nat.zero_add, hnew.cell]; simpa using hj⟩
            obtain ⟨v4, w4, hr, ho4, hg4, hv4⟩ := hown3.app_at 36 36 Try.underlying36 pi1 pi2 pi3 pi4 rfl (by omega) 1 1 rfl hy (by simp [Value.oneCell']) (by have := HDL.out; omega) (by omega) (by simp; omega)
            have hbel4 := hown3.fin hg4 (by simp; omega)
            have hbel : Below B wr w4 := (hb'.mono (by omega)).trans (((bel_alloc _).mono (by omega)).trans hbel4)
            have K0 : w3.cell? ⟨n2, 0, none⟩ = some (.pointer (some ⟨b, 0, none⟩)) ∧ w3.cell? ⟨b, 2, none⟩ = some (.int .i64 s) := ⟨(hb2.below hb' (by have := hb2.lt; omega)).cell 0, (hbuf.grow hb').cells.2.2.1⟩
            have K1 : (w3.alloc (.cells #[.int .u32 ((q.una + s) % 4294967296), .slice A' ln c'] 42)).cell? ⟨n2, 0, none⟩ = some (.pointer (some ⟨b, 0, none⟩)) ∧ (w3.alloc (.cells #[.int .u32 ((q.una + s) % 4294967296), .slice A' ln c'] 42)).cell? ⟨b, 2, none⟩ = some (.int .i64 s) := ⟨cell_alloc _ K0.1, cell_alloc _ K0.2⟩
            have K2 : w4.cell? ⟨n2, 0, none⟩ = some (.pointer (some ⟨b, 0, none⟩)) ∧ w4.cell? ⟨b, 2, none⟩ = some (.int .i64 s) := ⟨(hb2.below hbel hB3).cell 0, (hbuf.blk.below hbel (by omega)).cell 2⟩
            have K3 : w4.frozen? ⟨b, 2, none⟩ = false := (hbuf.blk.below hbel (by omega)).frozen 2
            have HX := Lib.hid (And.intro ho4 (And.intro hg4 (And.intro hv4 (And.intro hbel (And.intro ho hb')))))
            clear ho hb hbuf hb2 hb3 hb6 hown hpcs honly hB1 hB2 hB3 hB4 hB5 hB6 hB7 hB8 hB9 hz3 hb' hown3 hnew hy ho4 hg4 hv4 hbel4 hbel pi1 pi2 pi3 pi4))
        | (go_loud (refine step_app (.tmp 37) (.tmp 45) (by rfl) (by rfl) (by rfl) (by rfl) hr ?_)))
      go_wp2_with (fail)
      obtain ⟨ho4, hg4, hv4, hbel, ho, hb'⟩ := HX.out
      obtain ⟨hbuf, hb2, hb3, hb6, hown, hpcs, honly⟩ := HR.out
      obtain ⟨hB1, hB2, hB3, hB4, hB5, hB6, hB7, hB8, hB9⟩ := Hbase.out
      have htx := Hto.out
      have hfu := HF.out
      have hw4 : wr.heap.size ≤ w4.heap.size := hbel.size
      have hpc3 := (hpcs.below hb').snoc (p := ((q.una + s) % 4294967296, .slice A' ln c')) (d := pieceOf q (s, tx)) ⟨rfl, ho.low (by exact hB2), fun g hg e => by
        have h1 := (own_lt ho hg).2
        have h2 := hown.row_lt e
        have h3 : wr.heap.size ≤ g := h1
        omega⟩
      have hpc4 := ((hpc3.below (bel_alloc (.cells #[.int .u32 ((q.una + s) % 4294967296), .slice A' ln c'] 42))).grown hg4)
      have hpc5 : Pcs w4 B v4.ownBlock (vs ++ [((q.una + s) % 4294967296, .slice A' ln c')]) (done.map (pieceOf q) ++ [pieceOf q (s, tx)]) := by
        rcases hv4 with e | e
        · rw [e]; exact hpc4
        · rw [e]; exact (hpc3.below (bel_alloc _)).grown_new hg4 _ (Nat.le_refl _)
      have hgw : wr.grownBy w4 v.ownBlock := ((grown_of_below hb').trans (World.grownBy_alloc w3 _ _)).trans hg4
      have how := Only.grown hgw
      have hge := hown.row_ge
      have hnb : ∀ k, k < B → k ∉ v.ownBlock.toList := fun k hk hm => by have := hge k hm; omega
      have hpos : 0 < q.data.length := by have := Hen.out; omega
      have hbf4 : BufAt w4 b { q with sent := s } := hbuf.only how (hnb b (by omega)) (fun a ha => hnb _ (by have := hAb.out hpos a ha; omega))
      have hb5 : Only [b] w4 (w4.setCell ⟨b, 2, none⟩ (.int .i64 tx)) := (Only.refl _ _).setCell (.inl (by simp)) _
      have hbf5 : BufAt (w4.setCell ⟨b, 2, none⟩ (.int .i64 tx)) b { q with sent := tx } :=
        ⟨hbf4.blk.set_ 2 _, sl_only hbf4.sl hb5 (fun a ha => by simpa using hbf4.ne a ha), hbf4.ne, hbf4.cap, hbf4.cap1, hbf4.nil⟩
      have hvl : pcCells vs ++ [.int .u32 ((q.una + s) % 4294967296), .slice A' ln c'] = pcCells (vs ++ [((q.una + s) % 4294967296, .slice A' ln c')]) := by rw [pcCells_app]; rfl
      rw [hvl] at ho4
      refine ⟨(en - tx).toNat, by omega, tx, f, done ++ [(s, tx)], vs ++ [((q.una + s) % 4294967296, .slice A' ln c')], v4, ?_⟩
      exact { known := ⟨rfl, rfl, rfl, rfl, rfl, rfl, rfl⟩, gg := rfl, s0 := by omega, s1 := by omega, cut := HC.out, fuel := by omega, buf := hbf5, b2 := (hb2.only how (hnb _ hB3)).far (by simp; omega) _, b3 := (hb3.only how (hnb _ hB4)).far (by simp; omega) _, b6 := (hb6.only how (hnb _ hB5)).far (by simp; omega) _, own := by rw [List.length_append]; exact ho4.far (by simp; omega) _, pcs := by rw [List.map_append]; exact hpc5.far (by simp; omega) _, only := (honly.trans_new how (fun g hg => by have := hge g hg; omega)).setCell (.inl (by simp)) _, base := by simp only [World.setCell]; simp; omega }
    · have hse : en ≤ s := by omega
      have hdone : done = cuts mss 16384 q.sent en := by rw [hcut, cuts_done _ _ _ _ hse, List.append_nil]
      obtain ⟨A, c, rfl, hvl, hsl, hnc, hcm, hwn, _⟩ := hown.form (by omega)
      have HWN := Lib.hid (fun a (ha : A = some a) => Nat.le_trans hbase.1 (hwn a ha).1)
      clear hwn
      have hlen : done.length = (cuts mss 16384 q.sent en).length := by rw [hdone]
      have hrd := hpcs.reads hbase.1
      rw [hdone] at hrd
      have hq : Hid (BufAt wr b q.send) := Lib.hid (by
        have e : q.send = { q with sent := s } := by unfold BufS.send; rw [Hen.out, show max q.sent en = s by omega]
        rw [e]; exact hbuf)
      have HR := Lib.hid (And.intro hsl (And.intro hrd honly))
      have es := hbuf.cells.2.2.1
      simp only at es
      have e2' : wr.cell? ⟨n2, 0, none⟩ = some (.pointer (some ⟨b, 0, none⟩)) := hb2.cell 0
      have e6' : wr.cell? ⟨n6, 0, none⟩ = some (.int .i64 en) := hb6.cell 0
      rw [hlen] at q0
      clear hsl hrd honly hbuf hb2 hb3 hb6 hown hpcs hvl hdone hcut hfuel hlen hnc hcm hbase
      generalize hL : (cuts mss 16384 q.sent en).length = L at *
      have HL := Lib.hid hL
      clear hL
      obtain ⟨fd_, fs_, q_2, q_3, q_6, q_7, q_8⟩ := q0
      obtain ⟨f0, rfl⟩ := frame_open fd_ fs_
      clear fd_ fs_
      rw [show ((List.range 52).map f0).toArray = #[f0 0, f0 1, f0 2, f0 3, f0 4, f0 5, f0 6, f0 7, f0 8, f0 9, f0 10, f0 11, f0 12, f0 13, f0 14, f0 15, f0 16, f0 17, f0 18, f0 19, f0 20, f0 21, f0 22, f0 23, f0 24, f0 25, f0 26, f0 27, f0 28, f0 29, f0 30, f0 31, f0 32, f0 33, f0 34, f0 35, f0 36, f0 37, f0 38, f0 39, f0 40, f0 41, f0 42, f0 43, f0 44, f0 45, f0 46, f0 47, f0 48, f0 49, f0 50, f0 51] from rfl]
      rw [frame_get q_2, frame_get q_3, frame_get q_6, frame_get q_7, frame_get q_8]
      clear q_2 q_3 q_6 q_7 q_8
      go_wp2_with (fail)
      refine wp_still_tail 5 (by kernel_rfl) (by kernel_rfl) ?_
      simp only [List.take_succ_cons, List.take_zero, List.drop_succ_cons, List.drop_zero]
      repeat still_step
      refine wpStill_nil ?_
      go_wp2_with (fail)
      go_ret2
      rw [Hen.out, HL.out]
      exact ⟨A, c, vs, rfl, HR.out.1, HR.out.2.1.below ((Below.refl _ _).drew), hq.out.drew, HR.out.2.2.drew, HWN.out⟩
end
end Go.Proofs.Ytnpmelonkcgpgad

