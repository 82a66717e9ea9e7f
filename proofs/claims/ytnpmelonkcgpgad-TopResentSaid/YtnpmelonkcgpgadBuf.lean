/- The sender's buffer and the noter: what they hold, and what is read of them. -/
import Derived.Test.YtnpmelonkcgpgadRows
import Derived.Test.YtnpmelonkcgpgadMapW
import Derived.WalkKit
import Derived.Deep.QuietTactic
import Derived.BigQuiet
import Derived.Deep.RegionHeld3
import Derived.Deep.DrawnRows
import Derived.Lib.Hide
import Derived.Lib.MinMax
namespace Go.Proofs.Ytnpmelonkcgpgad
open Go.RowKit
set_option linter.unusedVariables false
set_option linter.unusedSimpArgs false

structure BufS where
  data : List UInt8
  A : Option Addr
  cap : Nat
  una : Int
  sent : Int
  window : Int
  rto : Int
  tries : Int
  wait : Int
  count : Int
  alarm : Int

structure BufAt (w : World) (b : Nat) (q : BufS) : Prop where
  blk : Blk w b 55 #[.slice q.A q.data.length q.cap, .int .u32 q.una, .int .i64 q.sent, .int .u32 q.window, .int .u64 q.rto, .int .i64 q.tries, .int .u64 q.wait, .int .i64 q.count, .int .u64 q.alarm]
  sl : Sl w q.A (bs q.data)
  ne : ∀ a, q.A = some a → a.block ≠ b
  cap : q.data.length ≤ q.cap
  cap1 : q.cap ≤ maxLen
  nil : q.A = none → q.data = [] ∧ q.cap = 0

/-- What the numbers of a buffer are like. -/
structure BufIn (q : BufS) : Prop where
  u0 : 0 ≤ q.una
  u1 : q.una < 4294967296
  s0 : 0 ≤ q.sent
  s1 : q.sent ≤ q.data.length
  l1 : q.data.length ≤ 16384
  w0 : 0 ≤ q.window
  w1 : q.window ≤ 1073741824
  r0 : 1 ≤ q.rto
  r1 : q.rto ≤ 1073741824

structure SentS where
  una : Int
  nxt : Int
  fin : Int
  window : Int
  wait : Int
  rto : Int
  alarm : Int
  tries : Int
  count : Int
  set_ : Bool

def SentAt (w : World) (b : Nat) (x : SentS) : Prop :=
  Blk w b 49 #[.int .i64 x.una, .int .i64 x.nxt, .int .i64 x.fin, .int .i64 x.window, .int .u64 x.wait, .int .u64 x.rto, .int .u64 x.alarm, .int .i64 x.tries, .int .i64 x.count, .bool x.set_]

section
variable {w w' : World} {b : Nat} {q : BufS} {x : SentS} {key : Int}
theorem BufAt.cells (h : BufAt w b q) : w.cell? ⟨b, 0, none⟩ = some (.slice q.A q.data.length q.cap) ∧ w.cell? ⟨b, 1, none⟩ = some (.int .u32 q.una) ∧ w.cell? ⟨b, 2, none⟩ = some (.int .i64 q.sent) ∧
    w.cell? ⟨b, 3, none⟩ = some (.int .u32 q.window) ∧ w.cell? ⟨b, 4, none⟩ = some (.int .u64 q.rto) ∧ w.cell? ⟨b, 5, none⟩ = some (.int .i64 q.tries) ∧ w.cell? ⟨b, 6, none⟩ = some (.int .u64 q.wait) ∧
    w.cell? ⟨b, 7, none⟩ = some (.int .i64 q.count) ∧ w.cell? ⟨b, 8, none⟩ = some (.int .u64 q.alarm) :=
  ⟨h.blk.cell 0, h.blk.cell 1, h.blk.cell 2, h.blk.cell 3, h.blk.cell 4, h.blk.cell 5, h.blk.cell 6, h.blk.cell 7, h.blk.cell 8⟩
theorem BufAt.drewN (h : BufAt w b q) (n : Nat) : BufAt (w.drewN n) b q := ⟨h.blk, h.sl, h.ne, h.cap, h.cap1, h.nil⟩
theorem SentAt.drewN (h : SentAt w b x) (n : Nat) : SentAt (w.drewN n) b x := h

theorem none_any (w : World) (h : BufAt w b q) (hi : BufIn q) : Calls Try.prog 15 #[.pointer (some ⟨b, 0, none⟩)] w fun e w' => e = .returned (.bool false) ∧ w = w' := by
  obtain ⟨c0, c1, c2, c3, c4, c5, c6, c7, c8⟩ := h.cells
  have hr : (q.rto == 0) = false := by have := hi.r0; simp; omega
  clear c0 c1 c2 c3 c5 c6 c7 c8
  generalize q.rto = r at *
  go_enter Try.func15, Try.ntmps15
  go_wp2
  go_ret
  exact ⟨rfl, rfl⟩
theorem may_any (m : Int) (w : World) : Calls Try.prog 18 #[.int .i64 m] w fun e w' => e = .returned (.bool (decide (1 ≤ m) && decide (m ≤ 1500))) ∧ w = w' := by
  by_cases h : 1 ≤ m
  · go_enter Try.func18, Try.ntmps18
    go_wp2
    go_ret
    exact ⟨by simp [h], rfl⟩
  · have h' : decide (1 ≤ m) = false := decide_eq_false h
    go_enter Try.func18, Try.ntmps18
    go_wp2
    go_ret
    exact ⟨by simp [h'], rfl⟩
theorem add_any (u n : Int) (w : World) : Calls Try.prog 27 #[.int .u32 u, .int .i64 n] w fun e w' => e = .returned (.int .u32 ((u + n) % 4294967296)) ∧ w = w' := by
  go_enter Try.func27, Try.ntmps27
  go_wp2
  go_ret
  refine ⟨?_, rfl⟩
  congr 2
  simp [IntKind.wrap, IntKind.bits, IntKind.signed]
theorem una_any (w : World) (h : BufAt w b q) (hi : BufIn q) : Calls Try.prog 23 #[.pointer (some ⟨b, 0, none⟩)] w fun e w' => e = .returned (.int .u32 q.una) ∧ w = w' := by
  obtain ⟨c0, c1, c2, c3, c4, c5, c6, c7, c8⟩ := h.cells
  have N := Lib.hid (none_any w h hi)
  go_enter Try.func23, Try.ntmps23
  go_wp2_with (go_at_call 15; (with_reducible refine N.out.mono ?_); rintro e w' ⟨rfl, rfl⟩)
  go_ret
  exact ⟨rfl, rfl⟩
theorem window_any (w : World) (h : BufAt w b q) (hi : BufIn q) : Calls Try.prog 26 #[.pointer (some ⟨b, 0, none⟩)] w fun e w' => e = .returned (.int .u32 q.window) ∧ w = w' := by
  obtain ⟨c0, c1, c2, c3, c4, c5, c6, c7, c8⟩ := h.cells
  have N := Lib.hid (none_any w h hi)
  go_enter Try.func26, Try.ntmps26
  go_wp2_with (go_at_call 15; (with_reducible refine N.out.mono ?_); rintro e w' ⟨rfl, rfl⟩)
  go_ret
  exact ⟨rfl, rfl⟩
theorem nxt_any (w : World) (h : BufAt w b q) (hi : BufIn q) : Calls Try.prog 24 #[.pointer (some ⟨b, 0, none⟩)] w fun e w' => e = .returned (.int .u32 ((q.una + q.sent) % 4294967296)) ∧ ∃ n, w' = w.drewN n := by
  obtain ⟨c0, c1, c2, c3, c4, c5, c6, c7, c8⟩ := h.cells
  have N := Lib.hid (none_any w h hi)
  go_enter Try.func24, Try.ntmps24
  go_wp2_with (go_at_call 15; (with_reducible refine N.out.mono ?_); rintro e w' ⟨rfl, rfl⟩)
  go_quiet (first
    | (go_at_call 27; exact Calls.quiet_of_same ((add_any _ _ _).mono (by rintro e w' ⟨rfl, rfl⟩; exact ⟨rfl, rfl⟩))))
  go_wp2
  go_ret
  exact ⟨rfl, _, rfl⟩
theorem end_any (w : World) (h : BufAt w b q) (hi : BufIn q) : Calls Try.prog 25 #[.pointer (some ⟨b, 0, none⟩)] w fun e w' => e = .returned (.int .u32 ((q.una + q.data.length) % 4294967296)) ∧ ∃ n, w' = w.drewN n := by
  obtain ⟨c0, c1, c2, c3, c4, c5, c6, c7, c8⟩ := h.cells
  have N := Lib.hid (none_any w h hi)
  have l1 := hi.l1
  have e1 : IntKind.i64.wrap (q.data.length : Int) = q.data.length := IntWalk.i64_in _ (by omega)
  go_enter Try.func25, Try.ntmps25
  go_wp2_with (go_at_call 15; (with_reducible refine N.out.mono ?_); rintro e w' ⟨rfl, rfl⟩)
  go_quiet (first
    | (go_at_call 27; exact Calls.quiet_of_same ((add_any _ _ _).mono (by rintro e w' ⟨rfl, rfl⟩; exact ⟨rfl, rfl⟩))))
  go_wp2
  go_ret
  exact ⟨rfl, _, rfl⟩
theorem alarm_any (w : World) (h : BufAt w b q) (hi : BufIn q) : Calls Try.prog 22 #[.pointer (some ⟨b, 0, none⟩)] w fun e w' => e = .returned (.tuple #[.int .u64 (if q.data.length = 0 then 0 else q.alarm), .bool (!decide (q.data.length = 0))]) ∧ w = w' := by
  obtain ⟨c0, c1, c2, c3, c4, c5, c6, c7, c8⟩ := h.cells
  have N := Lib.hid (none_any w h hi)
  have l1 := hi.l1
  by_cases h0 : q.data.length = 0
  · rw [h0] at c0
    rw [if_pos h0]
    go_enter Try.func22, Try.ntmps22
    go_wp2_with (go_at_call 15; (with_reducible refine N.out.mono ?_); rintro e w' ⟨rfl, rfl⟩)
    go_ret2
    exact ⟨by simp [h0], rfl⟩
  · rw [if_neg h0]
    generalize hn : q.data.length = n at *
    have hn' : ((n : Int) == 0) = false := by simp; omega
    go_enter Try.func22, Try.ntmps22
    go_wp2_with (go_at_call 15; (with_reducible refine N.out.mono ?_); rintro e w' ⟨rfl, rfl⟩)
    go_ret2
    exact ⟨by simp [h0], rfl⟩
end
end Go.Proofs.Ytnpmelonkcgpgad

