/- The sender's buffer: what is acknowledged. -/
import Derived.Test.YtnpmelonkcgpgadLaw
import Derived.Test.YtnpmelonkcgpgadStill
namespace Go.Proofs.Ytnpmelonkcgpgad
open Go.RowKit
set_option linter.unusedVariables false
set_option linter.unusedSimpArgs false

section
variable {w w' : World} {b : Nat} {q : BufS}
theorem BufAt.drew (h : BufAt w b q) : BufAt w.drew b q := ⟨h.blk, h.sl, h.ne, h.cap, h.cap1, h.nil⟩
theorem ahead_any (a d : Int) (w : World) (a0 : 0 ≤ a) (a1 : a < 4294967296) (d0 : -1000000 ≤ d) (d1 : d ≤ 1000000) :
    Calls Try.prog 21 #[.int .u32 a, .int .u32 ((a + d) % 4294967296)] w fun e w' => e = .returned (.int .i32 d) ∧ w = w' := by
  obtain ⟨c, hc⟩ : ∃ c, c = (a + d) % 4294967296 := ⟨_, rfl⟩
  rw [← hc]
  have Hc := Lib.hid hc
  clear hc
  go_enter Try.func21, Try.ntmps21
  go_wp2
  go_ret
  refine ⟨?_, rfl⟩
  congr 2
  have := Hc.out
  simp [IntKind.wrap, IntKind.bits, IntKind.signed]
  try unfold wrap32
  omega

theorem acked_bad (w : World) (h : BufAt w b q) (hi : BufIn q) (d win now : Int) (d0 : -1000 ≤ d) (d1 : d ≤ 1000) (hb : d < 0 ∨ q.sent < d ∨ 1073741824 < win) :
    Calls Try.prog 9 #[.pointer (some ⟨b, 0, none⟩), .int .u32 ((q.una + d) % 4294967296), .int .u32 win, .int .u64 now] w fun e w' => e = .returned (.tuple #[.int .i64 0, .int .i64 1]) ∧ w = w' := by
  obtain ⟨c0, c1, c2, c3, c4, c5, c6, c7, c8⟩ := h.cells
  have N := Lib.hid (none_any w h hi)
  have A := Lib.hid (ahead_any q.una d w hi.u0 hi.u1 (by omega) (by omega))
  generalize (q.una + d) % 4294967296 = ack at *
  clear c0 c3 c4 c5 c6 c7 c8
  have hc : d < 0 ∨ (0 ≤ d ∧ q.sent < d) ∨ (0 ≤ d ∧ d ≤ q.sent ∧ 1073741824 < win) := by omega
  clear hb
  generalize q.una = una at *
  generalize q.sent = sent at *
  rcases hc with h1 | ⟨h1, h2⟩ | ⟨h1, h2, h3⟩
  all_goals
    go_enter Try.func9, Try.ntmps9
    go_wp2_with (first
      | (go_at_call 15; (with_reducible refine N.out.mono ?_); rintro e w' ⟨rfl, rfl⟩)
      | (go_at_call 21; (with_reducible refine A.out.mono ?_); rintro e w' ⟨rfl, rfl⟩))
    go_ret2
    exact ⟨rfl, rfl⟩

theorem acked_zero (w : World) (h : BufAt w b q) (hi : BufIn q) (win now : Int) (w0 : 0 ≤ win) (w1 : win ≤ 1073741824) :
    Calls Try.prog 9 #[.pointer (some ⟨b, 0, none⟩), .int .u32 ((q.una + 0) % 4294967296), .int .u32 win, .int .u64 now] w fun e w' => e = .returned (.tuple #[.int .i64 0, .int .i64 0]) ∧ BufAt w' b { q with window := win } ∧ Only [b] w w' := by
  obtain ⟨c0, c1, c2, c3, c4, c5, c6, c7, c8⟩ := h.cells
  have f3 := h.blk.frozen 3
  have N := Lib.hid (none_any w h hi)
  have A := Lib.hid (ahead_any q.una 0 w hi.u0 hi.u1 (by omega) (by omega))
  have s0 := hi.s0
  have ST : Hid (BufAt (w.setCell ⟨b, 3, none⟩ (.int .u32 win)) b { q with window := win } ∧ Only [b] w (w.setCell ⟨b, 3, none⟩ (.int .u32 win))) := Lib.hid (by
    have ho : Only [b] w (w.setCell ⟨b, 3, none⟩ (.int .u32 win)) := (Only.refl _ _).setCell (.inl (by simp)) _
    exact ⟨⟨h.blk.set_ 3 _, sl_only h.sl ho (fun a ha => by simpa using h.ne a ha), h.ne, h.cap, h.cap1, h.nil⟩, ho⟩)
  generalize (q.una + 0) % 4294967296 = ack at *
  clear c0 c4 c5 c6 c7 c8 h
  generalize q.una = una at *
  generalize q.sent = sent at *
  go_enter Try.func9, Try.ntmps9
  go_wp2_with (first
    | (go_at_call 15; (with_reducible refine N.out.mono ?_); rintro e w' ⟨rfl, rfl⟩)
    | (go_at_call 21; (with_reducible refine A.out.mono ?_); rintro e w' ⟨rfl, rfl⟩))
  go_ret2
  exact ⟨rfl, ST.out.1, ST.out.2⟩

theorem sl_cut_bs {w : World} {A : Option Addr} {d : List UInt8} (h : Sl w A (bs d)) (n : Nat) (hn : n < d.length) {bb oo : Nat} (hA : A = some ⟨bb, oo, none⟩) : Sl w (some ⟨bb, oo + n, none⟩) (bs (d.drop n)) := by
  have hS := h.cut n d.length d.length hn (by simp)
  rw [if_neg (by omega), hA] at hS
  have e : ((bs d).take d.length).drop n = bs (d.drop n) := by rw [List.take_of_length_le (by simp)]; simp [bs, List.map_drop]
  have e2 : (⟨bb, oo, none⟩ : Addr).add n = ⟨bb, oo + n, none⟩ := by unfold Addr.add; split <;> simp_all
  rw [← e]
  rw [Option.map_some, e2] at hS
  exact hS

set_option maxHeartbeats 2000000 in
theorem acked_part (w : World) (h : BufAt w b q) (hi : BufIn q) (n : Nat) (win now : Int) (h0 : 0 < n) (h1 : (n : Int) ≤ q.sent) (h2 : n < q.data.length) (w0 : 0 ≤ win) (w1 : win ≤ 1073741824) (n0 : 0 ≤ now) (n1 : now ≤ 1099511627776) :
    Calls Try.prog 9 #[.pointer (some ⟨b, 0, none⟩), .int .u32 ((q.una + n) % 4294967296), .int .u32 win, .int .u64 now] w fun e w' => ∃ A' c', e = .returned (.tuple #[.int .i64 n, .int .i64 0]) ∧ BufAt w' b (q.acked ((q.una + n) % 4294967296) n win now A' c') ∧ Only [b] w w' ∧ ∀ a, A' = some a → ∃ a0, q.A = some a0 ∧ a0.block = a.block := by
  have l1 := hi.l1
  obtain ⟨bb, oo, hA, hcell⟩ := h.sl (by simp; omega)
  have hnb : bb ≠ b := h.ne _ hA
  have hS := sl_cut_bs h.sl n h2 hA
  have N := Lib.hid (none_any w h hi)
  have AH := Lib.hid (ahead_any q.una n w hi.u0 hi.u1 (by omega) (by omega))
  obtain ⟨ack, hack⟩ : ∃ ack, ack = (q.una + (n : Int)) % 4294967296 := ⟨_, rfl⟩
  have hk0 : 0 ≤ ack := by omega
  have hk1 : ack < 4294967296 := by omega
  rw [← hack] at AH ⊢
  clear hack
  obtain ⟨c0, c1, c2, c3, c4, c5, c6, c7, c8⟩ := h.cells
  have f0 := h.blk.frozen 0
  have f1 := h.blk.frozen 1
  have f2 := h.blk.frozen 2
  have f3 := h.blk.frozen 3
  rw [hA] at c0
  have hcap := h.cap
  have hcm := h.cap1
  unfold maxLen at hcm
  have q4 : Hid (BufAt ((((w.setCell ⟨b, 3, none⟩ (.int .u32 win)).setCell ⟨b, 1, none⟩ (.int .u32 ack)).setCell ⟨b, 2, none⟩ (.int .i64 (q.sent - n))).setCell ⟨b, 0, none⟩ (.slice (some ⟨bb, oo + n, none⟩) (q.data.length - n) (q.data.length - n))) b
      { q with window := win, una := ack, sent := q.sent - n, data := q.data.drop n, A := some ⟨bb, oo + n, none⟩, cap := q.data.length - n } ∧
      Only [b] w ((((w.setCell ⟨b, 3, none⟩ (.int .u32 win)).setCell ⟨b, 1, none⟩ (.int .u32 ack)).setCell ⟨b, 2, none⟩ (.int .i64 (q.sent - n))).setCell ⟨b, 0, none⟩ (.slice (some ⟨bb, oo + n, none⟩) (q.data.length - n) (q.data.length - n)))) := Lib.hid (by
    have ho : Only [b] w ((((w.setCell ⟨b, 3, none⟩ (.int .u32 win)).setCell ⟨b, 1, none⟩ (.int .u32 ack)).setCell ⟨b, 2, none⟩ (.int .i64 (q.sent - n))).setCell ⟨b, 0, none⟩ (.slice (some ⟨bb, oo + n, none⟩) (q.data.length - n) (q.data.length - n))) :=
      ((((Only.refl _ _).setCell (.inl (by simp)) _).setCell (.inl (by simp)) _).setCell (.inl (by simp)) _).setCell (.inl (by simp)) _
    have hb := (((h.blk.set_ 3 (.int .u32 win)).set_ 1 (.int .u32 ack)).set_ 2 (.int .i64 (q.sent - n))).set_ 0 (.slice (some ⟨bb, oo + n, none⟩) (q.data.length - n) (q.data.length - n))
    refine ⟨⟨?_, sl_only hS ho (fun a ha => by obtain rfl := Option.some.inj ha; simpa using hnb), fun a ha => by obtain rfl := Option.some.inj ha; exact hnb, by simp, by unfold maxLen; dsimp only; omega, fun hx => by cases hx⟩, ho⟩
    simpa using hb)
  have hi4 : Hid (BufIn { q with window := win, una := ack, sent := q.sent - n, data := q.data.drop n, A := some ⟨bb, oo + n, none⟩, cap := q.data.length - n }) := Lib.hid
    ⟨hk0, hk1, by have := hi.s0; simp; omega, by have := hi.s1; simp; omega, by simp; omega, w0, w1, hi.r0, hi.r1⟩
  have hfin : Hid (q.acked ack n win now (some ⟨bb, oo + n, none⟩) (q.data.length - n) = { q with window := win, una := ack, sent := q.sent - n, data := q.data.drop n, A := some ⟨bb, oo + n, none⟩, cap := q.data.length - n, wait := q.rto, count := 0, alarm := now + q.rto }) := Lib.hid (by
    unfold BufS.acked; rw [if_pos h0])
  clear hS hcell c4 c5 c6 c7 c8 h
  generalize hm : q.data.length = m at *
  have Hm := Lib.hid hm
  clear hm
  have i1 : (0 : Int) ≤ (n : Int) := by omega
  have i8 : q.sent ≤ 16384 := by have := hi.s1; have := Hm.out; omega
  have i2 : (n : Int) ≤ (m : Int) := by omega
  have i3 : (m : Int) ≤ (q.cap : Int) := by omega
  have i4 : n ≤ m := by omega
  have i5 : m ≤ q.cap := by omega
  have i6 : ¬ m = n := by omega
  have i7 : ¬ n = m := by omega
  go_enter Try.func9, Try.ntmps9
  go_wp2_with (first
    | (go_at_call 15; (with_reducible refine N.out.mono ?_); rintro e w' ⟨rfl, rfl⟩)
    | (go_at_call 21; (with_reducible refine AH.out.mono ?_); rintro e w' ⟨rfl, rfl⟩))
  refine wp_still_tail 17 (by kernel_rfl) (by kernel_rfl) ?_
  simp only [List.take_succ_cons, List.take_zero, List.drop_succ_cons, List.drop_zero]
  repeat still_step
  refine wpStill_nil ?_
  go_wp2_with (first
    | (go_at_call 17; go_loud (have hq := q4.out.1.drew; (with_reducible refine (bufanew_any _ now hq hi4.out n0 n1).mono ?_); clear hq; rintro e w3 ⟨rfl, hq3, ho3⟩)))
  go_ret2
  have hA' := hA
  refine ⟨some ⟨bb, oo + n, none⟩, m - n, rfl, ?_, q4.out.2.drew.trans ho3, fun a ha => ⟨_, hA, by obtain rfl := Option.some.inj ha; rfl⟩⟩
  rw [hfin.out]
  exact hq3
set_option maxHeartbeats 2000000 in
theorem acked_all (w : World) (h : BufAt w b q) (hi : BufIn q) (win now : Int) (h0 : 0 < q.data.length) (h1 : (q.data.length : Int) ≤ q.sent) (w0 : 0 ≤ win) (w1 : win ≤ 1073741824) (n0 : 0 ≤ now) (n1 : now ≤ 1099511627776) :
    Calls Try.prog 9 #[.pointer (some ⟨b, 0, none⟩), .int .u32 ((q.una + q.data.length) % 4294967296), .int .u32 win, .int .u64 now] w fun e w' => ∃ A' c', e = .returned (.tuple #[.int .i64 q.data.length, .int .i64 0]) ∧ BufAt w' b (q.acked ((q.una + q.data.length) % 4294967296) q.data.length win now A' c') ∧ Only [b] w w' ∧ ∀ a, A' = some a → ∃ a0, q.A = some a0 ∧ a0.block = a.block := by
  have l1 := hi.l1
  obtain ⟨bb, oo, hA, hcell⟩ := h.sl (by simp; omega)
  have hnb : bb ≠ b := h.ne _ hA
  have hS : Sl w (some ⟨bb, oo, none⟩) (bs (q.data.drop q.data.length)) := by rw [List.drop_length]; exact Sl.nil _ _
  have N := Lib.hid (none_any w h hi)
  have AH := Lib.hid (ahead_any q.una q.data.length w hi.u0 hi.u1 (by omega) (by omega))
  obtain ⟨ack, hack⟩ : ∃ ack, ack = (q.una + (q.data.length : Int)) % 4294967296 := ⟨_, rfl⟩
  have hk0 : 0 ≤ ack := by omega
  have hk1 : ack < 4294967296 := by omega
  rw [← hack] at AH ⊢
  clear hack
  obtain ⟨c0, c1, c2, c3, c4, c5, c6, c7, c8⟩ := h.cells
  have f0 := h.blk.frozen 0
  have f1 := h.blk.frozen 1
  have f2 := h.blk.frozen 2
  have f3 := h.blk.frozen 3
  rw [hA] at c0
  have hcap := h.cap
  have hcm := h.cap1
  unfold maxLen at hcm
  have q4 : Hid (BufAt ((((w.setCell ⟨b, 3, none⟩ (.int .u32 win)).setCell ⟨b, 1, none⟩ (.int .u32 ack)).setCell ⟨b, 2, none⟩ (.int .i64 (q.sent - q.data.length))).setCell ⟨b, 0, none⟩ (.slice (some ⟨bb, oo, none⟩) 0 0)) b
      { q with window := win, una := ack, sent := q.sent - q.data.length, data := q.data.drop q.data.length, A := some ⟨bb, oo, none⟩, cap := 0 } ∧
      Only [b] w ((((w.setCell ⟨b, 3, none⟩ (.int .u32 win)).setCell ⟨b, 1, none⟩ (.int .u32 ack)).setCell ⟨b, 2, none⟩ (.int .i64 (q.sent - q.data.length))).setCell ⟨b, 0, none⟩ (.slice (some ⟨bb, oo, none⟩) 0 0))) := Lib.hid (by
    have ho : Only [b] w ((((w.setCell ⟨b, 3, none⟩ (.int .u32 win)).setCell ⟨b, 1, none⟩ (.int .u32 ack)).setCell ⟨b, 2, none⟩ (.int .i64 (q.sent - q.data.length))).setCell ⟨b, 0, none⟩ (.slice (some ⟨bb, oo, none⟩) 0 0)) :=
      ((((Only.refl _ _).setCell (.inl (by simp)) _).setCell (.inl (by simp)) _).setCell (.inl (by simp)) _).setCell (.inl (by simp)) _
    have hb := (((h.blk.set_ 3 (.int .u32 win)).set_ 1 (.int .u32 ack)).set_ 2 (.int .i64 (q.sent - q.data.length))).set_ 0 (.slice (some ⟨bb, oo, none⟩) 0 0)
    refine ⟨⟨?_, sl_only hS ho (fun a ha => by obtain rfl := Option.some.inj ha; simpa using hnb), fun a ha => by obtain rfl := Option.some.inj ha; exact hnb, by simp, by unfold maxLen; dsimp only; omega, fun hx => by cases hx⟩, ho⟩
    simpa using hb)
  have hi4 : Hid (BufIn { q with window := win, una := ack, sent := q.sent - q.data.length, data := q.data.drop q.data.length, A := some ⟨bb, oo, none⟩, cap := 0 }) := Lib.hid
    ⟨hk0, hk1, by have := hi.s0; simp; omega, by have := hi.s1; simp; omega, by simp, w0, w1, hi.r0, hi.r1⟩
  have hfin : Hid (q.acked ack q.data.length win now (some ⟨bb, oo, none⟩) 0 = { q with window := win, una := ack, sent := q.sent - q.data.length, data := q.data.drop q.data.length, A := some ⟨bb, oo, none⟩, cap := 0, wait := q.rto, count := 0, alarm := now + q.rto }) := Lib.hid (by
    unfold BufS.acked; rw [if_pos h0])
  clear hS hcell c4 c5 c6 c7 c8 h
  generalize hm : q.data.length = m at *
  have Hm := Lib.hid hm
  clear hm
  have i1 : (0 : Int) < (m : Int) := by omega
  have i8 : q.sent ≤ 16384 := by have := hi.s1; have := Hm.out; omega
  have i3 : (m : Int) ≤ (q.cap : Int) := by omega
  have i5 : m ≤ q.cap := by omega
  go_enter Try.func9, Try.ntmps9
  go_wp2_with (first
    | (go_at_call 15; (with_reducible refine N.out.mono ?_); rintro e w' ⟨rfl, rfl⟩)
    | (go_at_call 21; (with_reducible refine AH.out.mono ?_); rintro e w' ⟨rfl, rfl⟩))
  refine wp_still_tail 17 (by kernel_rfl) (by kernel_rfl) ?_
  simp only [List.take_succ_cons, List.take_zero, List.drop_succ_cons, List.drop_zero]
  repeat still_step
  refine wpStill_nil ?_
  go_wp2_with (first
    | (go_at_call 17; go_loud (have hq := q4.out.1.drew; (with_reducible refine (bufanew_any _ now hq hi4.out n0 n1).mono ?_); clear hq; rintro e w3 ⟨rfl, hq3, ho3⟩)))
  go_ret2
  have hA' := hA
  refine ⟨some ⟨bb, oo, none⟩, 0, rfl, ?_, q4.out.2.drew.trans ho3, fun a ha => ⟨_, hA, by obtain rfl := Option.some.inj ha; rfl⟩⟩
  rw [hfin.out]
  exact hq3
end
end Go.Proofs.Ytnpmelonkcgpgad

