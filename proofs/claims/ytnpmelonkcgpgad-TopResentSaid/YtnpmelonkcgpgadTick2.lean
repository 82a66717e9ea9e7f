/- The sender's buffer: a piece is sent again. -/
import Derived.Test.YtnpmelonkcgpgadTick
namespace Go.Proofs.Ytnpmelonkcgpgad
open Go.RowKit
set_option linter.unusedVariables false
set_option linter.unusedSimpArgs false
attribute [local go_sem high] run_min_ints3

section
variable {w w' : World} {b : Nat} {q : BufS}
set_option maxHeartbeats 4000000 in
theorem tick_ok (w : World) (h : BufAt w b q) (hi : BufIn q) (mss now to : Int) (hm : mayB mss = true) (hz : ¬ q.data.length = 0) (ha : q.alarm ≤ now) (hc : ¬ q.count = q.tries)
    (hto : to = max (min (min mss q.data.length) q.window) 1) (k0 : 0 ≤ q.wait) (k1 : q.wait ≤ 1099511627776) (k2 : 0 ≤ q.count) (k3 : q.count ≤ 100) (n0 : 0 ≤ now) (n1 : now ≤ 1099511627776) :
    Calls Try.prog 10 #[.pointer (some ⟨b, 0, none⟩), .int .i64 mss, .int .u64 now] w fun e w' => ∃ v, e = .returned (.tuple #[.agg #[.int .u32 ((q.una + 0) % 4294967296), v], .bool true, .int .i64 0]) ∧ Ow w' w.heap.size 5 v (bs (q.data.take to.toNat)) ∧ BufAt w' b (q.tick to now) ∧ Only [b] w w' := by
  obtain ⟨bb, oo, hA, hcell⟩ := h.sl (by simp; omega)
  have hbb : bb < w.heap.size := cell_lt (hcell 0 _ (by rw [List.getElem?_eq_getElem (by simp; omega)]))
  clear hcell
  have hbl := h.blk.lt
  have m2 : 1 ≤ mss ∧ mss ≤ 1500 := by unfold mayB at hm; simpa using hm
  obtain ⟨m3, m4⟩ := m2
  have h1 := h.grow (bel_alloc (.cells #[.int .u32 0, .slice none 0 0] 42))
  obtain ⟨c0, c1, c2, c3, c4, c5, c6, c7, c8⟩ := h1.cells
  have f2 := h1.blk.frozen 2
  have f6 := h1.blk.frozen 6
  have f7 := h1.blk.frozen 7
  have f8 := h1.blk.frozen 8
  have N := Lib.hid (none_any _ h1 hi)
  have M0 := fun w => may_b mss w
  rw [hm] at M0
  have M := Lib.hid M0
  have l1 := hi.l1
  have w0 := hi.w0
  have w1 := hi.w1
  have s0 := hi.s0
  have s1 := hi.s1
  have u1 := hi.u1
  have u0 := hi.u0
  have QT : Hid (BufAt (((((w.alloc (.cells #[.int .u32 0, .slice none 0 0] 42)).setCell ⟨b, 7, none⟩ (.int .i64 (q.count + 1))).setCell ⟨b, 6, none⟩ (.int .u64 (q.wait * 2))).setCell ⟨b, 8, none⟩ (.int .u64 (now + q.wait * 2))).setCell ⟨b, 2, none⟩ (.int .i64 (max q.sent to))) b (q.tick to now) ∧
      Only [b] w (((((w.alloc (.cells #[.int .u32 0, .slice none 0 0] 42)).setCell ⟨b, 7, none⟩ (.int .i64 (q.count + 1))).setCell ⟨b, 6, none⟩ (.int .u64 (q.wait * 2))).setCell ⟨b, 8, none⟩ (.int .u64 (now + q.wait * 2))).setCell ⟨b, 2, none⟩ (.int .i64 (max q.sent to))) ∧
      Blk (((((w.alloc (.cells #[.int .u32 0, .slice none 0 0] 42)).setCell ⟨b, 7, none⟩ (.int .i64 (q.count + 1))).setCell ⟨b, 6, none⟩ (.int .u64 (q.wait * 2))).setCell ⟨b, 8, none⟩ (.int .u64 (now + q.wait * 2))).setCell ⟨b, 2, none⟩ (.int .i64 (max q.sent to))) w.heap.size 42 #[.int .u32 0, .slice none 0 0]) := Lib.hid (by
    have ho : Only [b] w (((((w.alloc (.cells #[.int .u32 0, .slice none 0 0] 42)).setCell ⟨b, 7, none⟩ (.int .i64 (q.count + 1))).setCell ⟨b, 6, none⟩ (.int .u64 (q.wait * 2))).setCell ⟨b, 8, none⟩ (.int .u64 (now + q.wait * 2))).setCell ⟨b, 2, none⟩ (.int .i64 (max q.sent to))) :=
      (((((Only.refl _ _).alloc _).setCell (.inl (by simp)) _).setCell (.inl (by simp)) _).setCell (.inl (by simp)) _).setCell (.inl (by simp)) _
    have hbk := (((h1.blk.set_ 7 (.int .i64 (q.count + 1))).set_ 6 (.int .u64 (q.wait * 2))).set_ 8 (.int .u64 (now + q.wait * 2))).set_ 2 (.int .i64 (max q.sent to))
    have hne : ∀ p : Addr, p.block = b → w.heap.size ≠ p.block := fun p hp => by omega
    exact ⟨⟨by simpa [BufS.tick] using hbk, sl_only h.sl ho (fun a ha => by simpa using h.ne a ha), h.ne, h.cap, h.cap1, h.nil⟩, ho, ((((Blk.new w 42 _).far (hne _ rfl) _).far (hne _ rfl) _).far (hne _ rfl) _).far (hne _ rfl) _⟩)
  have hiT : Hid (BufIn (q.tick to now)) := Lib.hid ⟨hi.u0, hi.u1, by simp only [BufS.tick]; omega, by simp only [BufS.tick]; omega, hi.l1, hi.w0, hi.w1, hi.r0, hi.r1⟩
  have hto2 : Hid (0 < to ∧ to ≤ (q.tick to now).data.length) := Lib.hid (by simp only [BufS.tick]; omega)
  have hsz : (((((w.alloc (.cells #[.int .u32 0, .slice none 0 0] 42)).setCell ⟨b, 7, none⟩ (.int .i64 (q.count + 1))).setCell ⟨b, 6, none⟩ (.int .u64 (q.wait * 2))).setCell ⟨b, 8, none⟩ (.int .u64 (now + q.wait * 2))).setCell ⟨b, 2, none⟩ (.int .i64 (max q.sent to))).heap.size = w.heap.size + 1 := by simp [World.setCell]
  have HSZ := Lib.hid hsz
  have hal : ¬ now < q.alarm := by omega
  have e1 : (q.count == q.tries) = false := by simpa using hc
  have hfin : Hid (∀ w', BufAt w' b (q.tick to now) → BufAt w' b (q.tick to now)) := Lib.hid (fun _ h => h)
  have Hto := Lib.hid hto
  have hdat : Hid ((q.tick to now).data = q.data ∧ (q.tick to now).una = q.una) := Lib.hid ⟨rfl, rfl⟩
  clear hm M0 h h1 hc hsz hto c1 ha
  generalize hlen : q.data.length = m at *
  have Hlen := Lib.hid hlen
  clear hlen
  have e0 : ((m : Int) == 0) = false := by simp; omega
  clear hz
  go_enter Try.func10, Try.ntmps10
  go_wp2_with (fail)
  generalize hW : w.alloc (.cells #[.int .u32 0, .slice none 0 0] 42) = W at *
  have HW := Lib.hid hW
  clear hW
  go_wp2_with (first
    | (go_at_call 15; (with_reducible refine N.out.mono ?_); rintro e w' ⟨rfl, rfl⟩)
    | (go_at_call 18; (with_reducible refine (M.out _).mono ?_); rintro e w' ⟨rfl, rfl⟩))
  refine wp_still_tail 8 (by kernel_rfl) (by kernel_rfl) ?_
  simp only [List.take_succ_cons, List.take_zero, List.drop_succ_cons, List.drop_zero]
  repeat still_step
  refine wpStill_nil ?_
  go_wp2_with (fail)
  refine wp_still_tail 11 (by kernel_rfl) (by kernel_rfl) ?_
  simp only [List.take_succ_cons, List.take_zero, List.drop_succ_cons, List.drop_zero]
  repeat still_step
  refine wpStill_nil ?_
  go_wp2_with (fail)
  have hto3 : max (min mss (min (m : Int) q.window)) 1 = to := by have := Hto.out; omega
  rw [hto3]
  clear hto3
  go_wp2_with (first
    | (go_at_call 20
       go_loud (
        have hp := piece_int _ QT.out.1.drew.drew hiT.out 0 to (by omega) hto2.out.1 hto2.out.2
        (with_reducible refine hp.mono ?_)
        clear hp
        rintro e w3 ⟨v, rfl, ho, hb⟩
        obtain ⟨A', c', rfl, hs', hf'⟩ := ho.form
        have hRd := QT.out.2.2.drew.drew
        have hR := hRd.below hb hRd.lt
        have r0 := hR.cell 0
        have r1 := hR.cell 1
        have g0 := hR.frozen 0
        have g1 := hR.frozen 1
        have HO := Lib.hid ho
        have HB := Lib.hid hb
        have HR := Lib.hid hR
        have HLT := Lib.hid hRd.lt
        clear ho hb hR hRd hs' hf')))
  have HO2 := HO.out
  have e5 : (q.tick to now).data = q.data := rfl
  rw [e5] at HO2
  simp only [Int.toNat_zero, List.drop_zero] at HO2
  have hw3 := HR.out.lt
  have e6 : (bs (q.data.take to.toNat)).length = min to.toNat (q.tick to now).data.length := by simp [e5]
  rw [e6] at HO2
  have ho4 : Only [w.heap.size] w3 ((w3.setCell ⟨w.heap.size, 0, none⟩ (.int .u32 ((q.tick to now).una % 4294967296))).setCell ⟨w.heap.size, 1, none⟩ (.slice A' (min to.toNat (q.tick to now).data.length) c')) :=
    ((Only.refl _ _).setCell (.inl (by simp)) _).setCell (.inl (by simp)) _
  refine bodyPost_ret (v := .tuple #[.agg #[.int .u32 ((q.tick to now).una % 4294967296), .slice A' (min to.toNat (q.tick to now).data.length) c'], .bool true, .int .i64 0]) (by simp [results, Try.results10, go_sem, r0, r1]) rfl ?_
  refine ⟨.slice A' (min to.toNat (q.tick to now).data.length) c', by simp [BufS.tick], ?_, ?_, ?_⟩
  · exact ((HO2.far (by exact HLT.out) _).far (by exact HLT.out) _).low (Nat.le_of_lt HLT.out)
  · refine (QT.out.1.drew.drew.grow HB.out).only ho4 (by simp; omega) (fun a ha => ?_)
    have : a = ⟨bb, oo, none⟩ := Option.some.inj (ha.symm.trans hA)
    subst this
    simp; omega
  · exact ((QT.out.2.1.drew.drew.trans (Only.below HB.out)).setCell (.inr (Nat.le_refl _)) _).setCell (.inr (Nat.le_refl _)) _
end
end Go.Proofs.Ytnpmelonkcgpgad

