/- The sender's buffer: what is sent again. -/
import Derived.Test.YtnpmelonkcgpgadPiece
import Derived.Test.YtnpmelonkcgpgadAck
namespace Go.Proofs.Ytnpmelonkcgpgad
open Go.RowKit
set_option linter.unusedVariables false
set_option linter.unusedSimpArgs false

section
variable {w w' : World} {b : Nat} {q : BufS}
theorem BufAt.grow (h : BufAt w b q) (hb : Below w.heap.size w w') : BufAt w' b q := h.only (Only.below (S := []) hb) (by simp) (by simp)
theorem bel_drewN {B : Nat} {a w : World} (h : Below B a w) (n : Nat) : Below B a (w.drewN n) := ⟨h.os, h.tape, h.output, h.size, h.block⟩
theorem piece_int (w : World) (h : BufAt w b q) (hi : BufIn q) (fr to : Int) (h0 : 0 ≤ fr) (h1 : fr < to) (h2 : to ≤ q.data.length) :
    Calls Try.prog 20 #[.pointer (some ⟨b, 0, none⟩), .int .i64 fr, .int .i64 to] w fun e w' => ∃ v, e = .returned (.agg #[.int .u32 ((q.una + fr) % 4294967296), v]) ∧ Ow w' w.heap.size 5 v (bs ((q.data.take to.toNat).drop fr.toNat)) ∧ Below w.heap.size w w' := by
  obtain ⟨f, rfl⟩ := Int.eq_ofNat_of_zero_le h0
  obtain ⟨t, rfl⟩ := Int.eq_ofNat_of_zero_le (show 0 ≤ to by omega)
  exact piece_any w h hi f t (by omega) (by omega)
def noPiece : Value := .agg #[.int .u32 0, .slice none 0 0]
theorem may_b (m : Int) (w : World) : Calls Try.prog 18 #[.int .i64 m] w fun e w' => e = .returned (.bool (mayB m)) ∧ w = w' := may_any m w

theorem tick_may (w : World) (h : BufAt w b q) (hi : BufIn q) (mss now : Int) (hm : mayB mss = false) :
    Calls Try.prog 10 #[.pointer (some ⟨b, 0, none⟩), .int .i64 mss, .int .u64 now] w fun e w' => e = .returned (.tuple #[noPiece, .bool false, .int .i64 1]) ∧ Below w.heap.size w w' := by
  have N := Lib.hid (none_any _ (h.grow (bel_alloc (.cells #[.int .u32 0, .slice none 0 0] 42))) hi)
  have M0 := fun w => may_b mss w
  rw [hm] at M0
  have M := Lib.hid M0
  clear M0 hm h
  go_enter Try.func10, Try.ntmps10
  go_wp2_with (first
    | (go_at_call 15; (with_reducible refine N.out.mono ?_); rintro e w' ⟨rfl, rfl⟩)
    | (go_at_call 18; (with_reducible refine (M.out _).mono ?_); rintro e w' ⟨rfl, rfl⟩))
  refine bodyPost_ret (v := .tuple #[noPiece, .bool false, .int .i64 1]) (by simp [results, Try.results10, go_sem, noPiece]) rfl ⟨rfl, ?_⟩
  first
    | exact (bel_alloc _)
    | exact ((bel_alloc _).setCell (Nat.le_refl _) _)

theorem tick_wait (w : World) (h : BufAt w b q) (hi : BufIn q) (mss now : Int) (hm : mayB mss = true) (hz : q.data.length = 0 ∨ now < q.alarm) :
    Calls Try.prog 10 #[.pointer (some ⟨b, 0, none⟩), .int .i64 mss, .int .u64 now] w fun e w' => e = .returned (.tuple #[noPiece, .bool false, .int .i64 0]) ∧ Below w.heap.size w w' := by
  have h1 := h.grow (bel_alloc (.cells #[.int .u32 0, .slice none 0 0] 42))
  obtain ⟨c0, c1, c2, c3, c4, c5, c6, c7, c8⟩ := h1.cells
  have N := Lib.hid (none_any _ h1 hi)
  have M0 := fun w => may_b mss w
  rw [hm] at M0
  have M := Lib.hid M0
  have l1 := hi.l1
  clear M0 hm h h1 c1 c2 c3 c4 c5 c6 c7
  generalize q.data.length = m at *
  generalize q.alarm = al at *
  by_cases hm0 : m = 0
  · subst hm0
    clear hz
    go_enter Try.func10, Try.ntmps10
    go_wp2_with (first
      | (go_at_call 15; (with_reducible refine N.out.mono ?_); rintro e w' ⟨rfl, rfl⟩)
      | (go_at_call 18; (with_reducible refine (M.out _).mono ?_); rintro e w' ⟨rfl, rfl⟩))
    refine bodyPost_ret (v := .tuple #[noPiece, .bool false, .int .i64 0]) (by simp [results, Try.results10, go_sem, noPiece]) rfl ⟨rfl, ?_⟩
    first
      | exact (bel_alloc _)
      | exact ((bel_alloc _).setCell (Nat.le_refl _) _)
  · have hz' : now < al := by omega
    have e0 : ((m : Int) == 0) = false := by simp; omega
    clear hz hm0
    go_enter Try.func10, Try.ntmps10
    go_wp2_with (first
      | (go_at_call 15; (with_reducible refine N.out.mono ?_); rintro e w' ⟨rfl, rfl⟩)
      | (go_at_call 18; (with_reducible refine (M.out _).mono ?_); rintro e w' ⟨rfl, rfl⟩))
    refine bodyPost_ret (v := .tuple #[noPiece, .bool false, .int .i64 0]) (by simp [results, Try.results10, go_sem, noPiece]) rfl ⟨rfl, ?_⟩
    first
      | exact (bel_alloc _)
      | exact ((bel_alloc _).setCell (Nat.le_refl _) _)

theorem tick_full (w : World) (h : BufAt w b q) (hi : BufIn q) (mss now : Int) (hm : mayB mss = true) (hz : ¬ q.data.length = 0) (ha : q.alarm ≤ now) (hc : q.count = q.tries) :
    Calls Try.prog 10 #[.pointer (some ⟨b, 0, none⟩), .int .i64 mss, .int .u64 now] w fun e w' => e = .returned (.tuple #[noPiece, .bool false, .int .i64 7]) ∧ Below w.heap.size w w' := by
  have h1 := h.grow (bel_alloc (.cells #[.int .u32 0, .slice none 0 0] 42))
  obtain ⟨c0, c1, c2, c3, c4, c5, c6, c7, c8⟩ := h1.cells
  have N := Lib.hid (none_any _ h1 hi)
  have M0 := fun w => may_b mss w
  rw [hm] at M0
  have M := Lib.hid M0
  have l1 := hi.l1
  rw [hc] at c7
  clear M0 hm h h1 c1 c2 c3 c4 c6 hc
  generalize q.data.length = m at *
  generalize q.alarm = al at *
  generalize q.tries = tr at *
  have e0 : ((m : Int) == 0) = false := by simp; omega
  have e1 : (tr == tr) = true := by simp
  clear hz
  go_enter Try.func10, Try.ntmps10
  go_wp2_with (first
    | (go_at_call 15; (with_reducible refine N.out.mono ?_); rintro e w' ⟨rfl, rfl⟩)
    | (go_at_call 18; (with_reducible refine (M.out _).mono ?_); rintro e w' ⟨rfl, rfl⟩))
  go_quiet (fail)
  go_wp2
  refine bodyPost_ret (v := .tuple #[noPiece, .bool false, .int .i64 7]) (by simp [results, Try.results10, go_sem, noPiece]) rfl ⟨rfl, ?_⟩
  exact ((bel_drewN (bel_alloc _) _).setCell (Nat.le_refl _) _).setCell (Nat.le_refl _) _
end
end Go.Proofs.Ytnpmelonkcgpgad

