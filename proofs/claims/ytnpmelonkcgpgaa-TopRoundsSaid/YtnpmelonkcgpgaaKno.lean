/- knows01 answers true: the document's examples. -/
import Derived.Test.YtnpmelonkcgpgaaRou
import Derived.Test.YtnpmelonkcgpgaaCu1
import Derived.Lib.SlBytesConst
namespace Go.Proofs.Ytnpmelonkcgpgaa
open Go.RowKit
set_option linter.unusedVariables false
set_option linter.unusedSimpArgs false

theorem abcd_row (w : World) (t : TypeId) (fr : Nat × Nat) : Sl (w.alloc (.cells #[.int .u8 97, .int .u8 98, .int .u8 99, .int .u8 100] t fr)) (some ⟨w.heap.size, 0, none⟩) (bs [97, 98, 99, 100]) :=
  fun _ => ⟨_, 0, rfl, fun j v hj => by rw [World.cell?_alloc_mark, Nat.zero_add]; simpa [bs] using hj⟩

set_option maxHeartbeats 800000 in
theorem knows_any (w : World) : Calls Try.prog 4 #[] w fun e w' => e = .returned (.bool true) ∧ Below w.heap.size w w' := by
  have A1 : Hid (∀ w, Calls Try.prog 13 #[.int .u32 5, .int .i64 0, .int .u32 5, .int .u32 0] w fun e w' => e = .returned (.bool true) ∧ Below w.heap.size w w') := fun w => accept_any 5 0 5 0 w (by omega) (by omega)
  have A2 : Hid (∀ w, Calls Try.prog 13 #[.int .u32 4, .int .i64 0, .int .u32 5, .int .u32 9] w fun e w' => e = .returned (.bool false) ∧ Below w.heap.size w w') := fun w => accept_any 4 0 5 9 w (by omega) (by omega)
  have A3 : Hid (∀ w, Calls Try.prog 13 #[.int .u32 3, .int .i64 3, .int .u32 5, .int .u32 1] w fun e w' => e = .returned (.bool true) ∧ Below w.heap.size w w') := fun w => accept_any 3 3 5 1 w (by omega) (by omega)
  have A4 : Hid (∀ w, Calls Try.prog 13 #[.int .u32 3, .int .i64 2, .int .u32 5, .int .u32 1] w fun e w' => e = .returned (.bool false) ∧ Below w.heap.size w w') := fun w => accept_any 3 2 5 1 w (by omega) (by omega)
  have A5 : Hid (∀ w, Calls Try.prog 13 #[.int .u32 5, .int .i64 1, .int .u32 5, .int .u32 0] w fun e w' => e = .returned (.bool false) ∧ Below w.heap.size w w') := fun w => accept_any 5 1 5 0 w (by omega) (by omega)
  have kc := fun (w : World) (C : Array Value) (n c : Nat) => Lib.run_convert_bytes_const (P := Try.prog) w 24 5 C n c Try.underlying24 Try.underlying5
  have D1 : Hid (∀ w, Calls Try.prog 10 #[.int .u32 4294967294, .int .u32 5] w fun e w' => e = .returned (.int .i32 7) ∧ w = w') := fun w => by have := ahead_any 4294967294 5 w; rwa [show wrap32 (5 - 4294967294) = 7 by decide +kernel] at this
  have D2 : Hid (∀ w, Calls Try.prog 10 #[.int .u32 5, .int .u32 4294967294] w fun e w' => e = .returned (.int .i32 (-7)) ∧ w = w') := fun w => by have := ahead_any 5 4294967294 w; rwa [show wrap32 (4294967294 - 5) = -7 by decide +kernel] at this
  have L1 : Hid (∀ w, Calls Try.prog 11 #[.int .u32 4294967295, .int .u32 0] w fun e w' => e = .returned (.bool true) ∧ w = w') := fun w => by have := less_any 4294967295 0 w; rwa [show decide (0 < wrap32 (0 - 4294967295)) = true by decide +kernel] at this
  have L2 : Hid (∀ w, Calls Try.prog 11 #[.int .u32 0, .int .u32 2147483648] w fun e w' => e = .returned (.bool false) ∧ w = w') := fun w => by have := less_any 0 2147483648 w; rwa [show decide (0 < wrap32 (2147483648 - 0)) = false by decide +kernel] at this
  have U1 : Hid (∀ (w : World) (t : TypeId) (fr : Nat × Nat), Calls Try.prog 8 #[.int .u32 8, .slice (some ⟨w.heap.size, 0, none⟩) 4 4, .int .u32 10, .int .u32 1] (w.alloc (.cells #[.int .u8 97, .int .u8 98, .int .u8 99, .int .u8 100] t fr)) fun e w' =>
      ∃ A' n, e = .returned (.tuple #[.int .u32 10, .slice A' n n]) ∧ n = 1 ∧ Sl w' A' (bs [99]) ∧ Below (w.heap.size + 1) (w.alloc (.cells #[.int .u8 97, .int .u8 98, .int .u8 99, .int .u8 100] t fr)) w') := fun w t fr => by
    have := cut_any 8 10 1 (some ⟨w.heap.size, 0, none⟩) [97, 98, 99, 100] 4 _ (by omega) (by omega) (abcd_row w t fr) (by simp) (by omega) (by simp)
    rw [show cutPart 8 10 1 [97, 98, 99, 100] = [99] by decide +kernel, show cutAt 8 10 1 ([97, 98, 99, 100] : List UInt8).length = 10 by decide +kernel] at this
    simpa using this
  have U2 : Hid (∀ (w : World) (t : TypeId) (fr : Nat × Nat), Calls Try.prog 7 #[.int .u32 4294967294, .slice (some ⟨w.heap.size, 0, none⟩) 4 4, .int .u32 0, .int .u32 1] (w.alloc (.cells #[.int .u8 97, .int .u8 98, .int .u8 99, .int .u8 100] t fr)) fun e w' =>
      e = .returned (.bool true) ∧ Below (w.heap.size + 1) (w.alloc (.cells #[.int .u8 97, .int .u8 98, .int .u8 99, .int .u8 100] t fr)) w') := fun w t fr => by
    have := cut01_any 4294967294 0 1 (some ⟨w.heap.size, 0, none⟩) [97, 98, 99, 100] 4 _ (by omega) (by omega) (by omega) (by omega) (by omega) (by omega) (abcd_row w t fr) (by simp) (by omega) (by simp)
    simpa using this
  go_enter Try.func4, Try.ntmps4
  go_wp2_with (first
    | (go_at_call 8; refine (U1.out _ _ _).mono ?_; rintro e w1 ⟨A', n, rfl, rfl, hS, hb1⟩; have hcv := fun (w2 : World) (h : Sl w2 A' (bs [99])) => run_conv (P := Try.prog) h 24 9 5 Try.underlying24 Try.underlying5 Try.underlying9 1 1 rfl; have Hcv := Lib.hid hcv; clear hcv; have hcv := Hcv.out _ hS)
    | (go_at_call 9; refine (add_any _ _ _).mono ?_; rintro e w' ⟨rfl, rfl⟩)
    | (go_at_call 10; refine (D1.out _).mono ?_; rintro e w' ⟨rfl, rfl⟩)
    | (go_at_call 10; refine (D2.out _).mono ?_; rintro e w' ⟨rfl, rfl⟩)
    | (go_at_call 11; refine (L1.out _).mono ?_; rintro e w' ⟨rfl, rfl⟩)
    | (go_at_call 11; refine (L2.out _).mono ?_; rintro e w' ⟨rfl, rfl⟩)
    | (go_at_call 12; refine (within_any _ _ _ _).mono ?_; rintro e w' ⟨rfl, rfl⟩)
    | (go_at_call 13; (with_reducible refine (A1.out _).mono ?_); rintro e w2 ⟨rfl, hb2⟩)
    | (go_at_call 13; (with_reducible refine (A2.out _).mono ?_); rintro e w3 ⟨rfl, hb3⟩)
    | (go_at_call 13; (with_reducible refine (A3.out _).mono ?_); rintro e w4 ⟨rfl, hb4⟩)
    | (go_at_call 13; (with_reducible refine (A4.out _).mono ?_); rintro e w5 ⟨rfl, hb5⟩)
    | (go_at_call 13; (with_reducible refine (A5.out _).mono ?_); rintro e w6 ⟨rfl, hb6⟩)
    | (go_at_call 7; refine (U2.out _ _ _).mono ?_; rintro e w7 ⟨rfl, hb7⟩))
  go_ret
  exact ⟨rfl, bel_trans (bel_then hb1) (bel_trans hb2 (bel_trans hb3 (bel_trans hb4 (bel_trans hb5 (bel_trans hb6 (bel_then hb7))))))⟩

end Go.Proofs.Ytnpmelonkcgpgaa
