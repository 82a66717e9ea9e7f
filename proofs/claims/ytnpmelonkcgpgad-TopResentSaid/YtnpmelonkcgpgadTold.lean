/- The noter, held against the buffer; beginning anew. -/
import Derived.Test.YtnpmelonkcgpgadBuf
namespace Go.Proofs.Ytnpmelonkcgpgad
open Go.RowKit
set_option linter.unusedVariables false
set_option linter.unusedSimpArgs false
attribute [local go_sem ↓] Go.wp_at_zero Go.wp_at_succ

/-- What the noter and the buffer tell alike. -/
structure Told (first : Int) (q : BufS) (x : SentS) : Prop where
  e1 : IntKind.u32.wrap (first + IntKind.u32.wrap x.una) = q.una
  e2 : IntKind.u32.wrap (first + IntKind.u32.wrap x.nxt) = (q.una + q.sent) % 4294967296
  e3 : IntKind.u32.wrap (first + IntKind.u32.wrap x.fin) = (q.una + q.data.length) % 4294967296
  e4 : IntKind.u32.wrap x.window = q.window
  e5 : (!decide (q.data.length = 0)) = x.set_
  e6 : (if q.data.length = 0 then 0 else q.alarm) = x.alarm

section
variable {w w' : World} {b xb : Nat} {q : BufS} {x : SentS} {first : Int}
theorem SentAt.cells (h : SentAt w b x) : w.cell? ⟨b, 0, none⟩ = some (.int .i64 x.una) ∧ w.cell? ⟨b, 1, none⟩ = some (.int .i64 x.nxt) ∧ w.cell? ⟨b, 2, none⟩ = some (.int .i64 x.fin) ∧
    w.cell? ⟨b, 3, none⟩ = some (.int .i64 x.window) ∧ w.cell? ⟨b, 4, none⟩ = some (.int .u64 x.wait) ∧ w.cell? ⟨b, 5, none⟩ = some (.int .u64 x.rto) ∧ w.cell? ⟨b, 6, none⟩ = some (.int .u64 x.alarm) ∧
    w.cell? ⟨b, 7, none⟩ = some (.int .i64 x.tries) ∧ w.cell? ⟨b, 8, none⟩ = some (.int .i64 x.count) ∧ w.cell? ⟨b, 9, none⟩ = some (.bool x.set_) :=
  ⟨Blk.cell h 0, Blk.cell h 1, Blk.cell h 2, Blk.cell h 3, Blk.cell h 4, Blk.cell h 5, Blk.cell h 6, Blk.cell h 7, Blk.cell h 8, Blk.cell h 9⟩

set_option maxHeartbeats 1000000 in
theorem told_any (w : World) (h : BufAt w b q) (hi : BufIn q) (hx : SentAt w xb x) (ht : Told first q x) :
    Calls Try.prog 14 #[.pointer (some ⟨xb, 0, none⟩), .pointer (some ⟨b, 0, none⟩), .int .u32 first] w fun e w' => e = .returned (.bool true) ∧ ∃ n, w' = w.drewN n := by
  obtain ⟨d0, d1, d2, d3, d4, d5, d6, d7, d8, d9⟩ := hx.cells
  obtain ⟨e1, e2, e3, e4, e5, e6⟩ := ht
  have HA := alarm_any w h hi
  rw [e5, e6] at HA
  have HU := fun n => una_any (w.drewN n) (h.drewN n) hi
  have HN := fun n => nxt_any (w.drewN n) (h.drewN n) hi
  have HE := fun n => end_any (w.drewN n) (h.drewN n) hi
  have HW := fun n => window_any (w.drewN n) (h.drewN n) hi
  have A := Lib.hid HA
  have U := Lib.hid HU
  have N := Lib.hid HN
  have E := Lib.hid HE
  have W := Lib.hid HW
  clear HA HU HN HE HW e5 e6 d4 d5 d7 d8
  generalize (q.una + q.sent) % 4294967296 = v2 at *
  generalize (q.una + (q.data.length : Int)) % 4294967296 = v3 at *
  go_enter Try.func14, Try.ntmps14
  go_wp2_with (go_at_call 22; (with_reducible refine A.out.mono ?_); rintro e w' ⟨rfl, rfl⟩)
  go_quiet (first
    | (go_at_call 23; exact Calls.quiet_of_same ((U.out _).mono (by rintro e w' ⟨rfl, rfl⟩; exact ⟨rfl, rfl⟩)))
    | (go_at_call 24; exact Calls.quiet_of (N.out _))
    | (go_at_call 25; exact Calls.quiet_of (E.out _))
    | (go_at_call 26; exact Calls.quiet_of_same ((W.out _).mono (by rintro e w' ⟨rfl, rfl⟩; exact ⟨rfl, rfl⟩))))
  go_wp2
  go_ret
  exact ⟨rfl, _, rfl⟩

theorem sl_only {S : List Nat} {A : Option Addr} {xs : List Value} (h : Sl w A xs) (ho : Only S w w') (hS : ∀ a, A = some a → a.block ∉ S) : Sl w' A xs := fun hp => by
  obtain ⟨b, o, rfl, hc⟩ := h hp
  exact ⟨b, o, rfl, fun j v hj => (ho.cell (p := ⟨b, o + j, none⟩) (cell_lt (hc j v hj)) (hS ⟨b, o, none⟩ rfl)).trans (hc j v hj)⟩
theorem BufAt.only {S : List Nat} (h : BufAt w b q) (ho : Only S w w') (hb : b ∉ S) (hS : ∀ a, q.A = some a → a.block ∉ S) : BufAt w' b q :=
  ⟨h.blk.only ho hb, sl_only h.sl ho hS, h.ne, h.cap, h.cap1, h.nil⟩

/-- The buffer begins anew. -/
theorem bufanew_any (w : World) (now : Int) (h : BufAt w b q) (hi : BufIn q) (n0 : 0 ≤ now) (n1 : now ≤ 1099511627776) :
    Calls Try.prog 17 #[.pointer (some ⟨b, 0, none⟩), .int .u64 now] w fun e w' => e = .returned (.tuple #[]) ∧ BufAt w' b { q with wait := q.rto, count := 0, alarm := now + q.rto } ∧ Only [b] w w' := by
  obtain ⟨c0, c1, c2, c3, c4, c5, c6, c7, c8⟩ := h.cells
  have f6 := h.blk.frozen 6
  have f7 := h.blk.frozen 7
  have f8 := h.blk.frozen 8
  have r1 := hi.r1
  have r0 := hi.r0
  have e1 : IntKind.u64.wrap (now + q.rto) = now + q.rto := IntWalk.u64_in _ (by omega)
  have b1 := h.blk.set_ 6 (.int .u64 q.rto)
  have b2 := b1.set_ 7 (.int .i64 0)
  have b3 := b2.set_ 8 (.int .u64 (now + q.rto))
  have s1 : (w.setCell ⟨b, 6, none⟩ (.int .u64 q.rto)).cell? ⟨b, 4, none⟩ = some (.int .u64 q.rto) := b1.cell 4
  have s2 : ((w.setCell ⟨b, 6, none⟩ (.int .u64 q.rto)).setCell ⟨b, 7, none⟩ (.int .i64 0)).cell? ⟨b, 4, none⟩ = some (.int .u64 q.rto) := b2.cell 4
  have s3 : (((w.setCell ⟨b, 6, none⟩ (.int .u64 q.rto)).setCell ⟨b, 7, none⟩ (.int .i64 0)).setCell ⟨b, 8, none⟩ (.int .u64 (now + q.rto))).cell? ⟨b, 4, none⟩ = some (.int .u64 q.rto) := b3.cell 4
  have s4 : (w.setCell ⟨b, 6, none⟩ (.int .u64 q.rto)).cell? ⟨b, 7, none⟩ = some (.int .i64 q.count) := b1.cell 7
  have s5 : ((w.setCell ⟨b, 6, none⟩ (.int .u64 q.rto)).setCell ⟨b, 7, none⟩ (.int .i64 0)).cell? ⟨b, 8, none⟩ = some (.int .u64 q.alarm) := b2.cell 8
  have s6 := b1.frozen 7
  have s7 := b2.frozen 8
  have HB := Lib.hid b3
  have H := Lib.hid h
  clear c0 c1 c2 c3 c5 b1 b2 b3
  go_enter Try.func17, Try.ntmps17
  go_wp2_with (fail)
  go_region_held3 (fun w' => w'.cell? ⟨b, 4, none⟩ = some (.int .u64 q.rto)) (first | exact s1 | exact s2 | exact s3 | go_keep) (fail)
  go_wp2
  go_end0
  have ho : Only [b] w ((((w.setCell ⟨b, 6, none⟩ (.int .u64 q.rto)).setCell ⟨b, 7, none⟩ (.int .i64 0)).setCell ⟨b, 8, none⟩ (.int .u64 (now + q.rto))).drew) :=
    ((((Only.refl _ _).setCell (.inl (by simp)) _).setCell (.inl (by simp)) _).setCell (.inl (by simp)) _).drew
  exact ⟨rfl, ⟨HB.out, sl_only H.out.sl ho (fun a ha => by simpa using H.out.ne a ha), H.out.ne, H.out.cap, H.out.cap1, H.out.nil⟩, ho⟩

end
end Go.Proofs.Ytnpmelonkcgpgad

