/- The scalar functions of the layer seq and of the statement TopRounds: what each call computes. -/
import Derived.Test.YtnpmelonkcgpgaaRows
import Derived.WalkKit
import Derived.WalkSpells
import Derived.WalkLawsBesides
import Derived.Lib.Hide
namespace Go.Proofs.Ytnpmelonkcgpgaa
open Go.RowKit
set_option linter.unusedVariables false
set_option linter.unusedSimpArgs false

theorem place_any (n : Int) (w : World) : Calls Try.prog 15 #[.int .i64 n] w fun e w' => e = .returned (.int .i64 (n % 4294967296)) ∧ w = w' := by
  have h : (wrap64 (n.tmod 4294967296 + 4294967296)).tmod 4294967296 = n % 4294967296 := by
    have e1 : wrap64 (n.tmod 4294967296 + 4294967296) = n.tmod 4294967296 + 4294967296 := by
      unfold wrap64; rw [Int.tmod_eq_emod]; split <;> omega
    rw [e1, Int.tmod_eq_emod_of_nonneg (by rw [Int.tmod_eq_emod]; split <;> omega), Int.tmod_eq_emod]
    split <;> omega
  go_enter Try.func15, Try.ntmps15
  go_wp2
  go_ret
  exact ⟨rfl, rfl⟩

theorem add_any (a n : Int) (w : World) : Calls Try.prog 9 #[.int .u32 a, .int .i64 n] w fun e w' => e = .returned (.int .u32 ((a + n) % 4294967296)) ∧ w = w' := by
  go_enter Try.func9, Try.ntmps9
  go_wp2
  go_ret
  exact ⟨by simp, rfl⟩

theorem ahead_any (a b : Int) (w : World) : Calls Try.prog 10 #[.int .u32 a, .int .u32 b] w fun e w' => e = .returned (.int .i32 (wrap32 (b - a))) ∧ w = w' := by
  have h : wrap32 ((b - a) % 4294967296) = wrap32 (b - a) := by unfold wrap32; omega
  have H := Lib.hid h
  clear h
  go_enter Try.func10, Try.ntmps10
  go_wp2
  go_ret
  exact ⟨congrArg (fun x => Ending.returned (.int .i32 x)) H.out, rfl⟩

theorem less_any (a b : Int) (w : World) : Calls Try.prog 11 #[.int .u32 a, .int .u32 b] w fun e w' => e = .returned (.bool (decide (0 < wrap32 (b - a)))) ∧ w = w' := by
  go_enter Try.func11, Try.ntmps11
  go_wp2_with (go_at_call 10; refine (ahead_any _ _ _).mono ?_; rintro e w' ⟨rfl, rfl⟩)
  go_ret
  exact ⟨rfl, rfl⟩

theorem later_any (a b : Int) (w : World) : Calls Try.prog 16 #[.int .u32 a, .int .u32 b] w fun e w' => e = .returned (.int .u32 (if 0 < wrap32 (b - a) then b else a)) ∧ w = w' := by
  by_cases h : 0 < wrap32 (b - a)
  · go_enter Try.func16, Try.ntmps16
    go_wp2_with (go_at_call 11; refine (less_any _ _ _).mono ?_; rintro e w' ⟨rfl, rfl⟩)
    go_ret
    exact ⟨by simp, rfl⟩
  · go_enter Try.func16, Try.ntmps16
    go_wp2_with (go_at_call 11; refine (less_any _ _ _).mono ?_; rintro e w' ⟨rfl, rfl⟩)
    go_ret
    exact ⟨by simp, rfl⟩

theorem within_any (x f l : Int) (w : World) : Calls Try.prog 12 #[.int .u32 x, .int .u32 f, .int .u32 l] w fun e w' => e = .returned (.bool (decide ((x - f) % 4294967296 < l))) ∧ w = w' := by
  go_enter Try.func12, Try.ntmps12
  go_wp2
  go_ret
  exact ⟨rfl, rfl⟩

theorem ahead01_any (a b : Int) (w : World) : Calls Try.prog 14 #[.int .i64 a, .int .i64 b] w fun e w' => e = .returned (.int .i64 (wrap32 (b - a))) ∧ w = w' := by
  have h : wrap64 (b - a) % 4294967296 = (b - a) % 4294967296 := by unfold wrap64; omega
  have H := Lib.hid h
  clear h
  have h0 : 0 ≤ (b - a) % 4294967296 := by omega
  have h1 : (b - a) % 4294967296 < 4294967296 := by omega
  by_cases hc : (2147483648 : Int) ≤ (b - a) % 4294967296
  · have e : wrap32 (b - a) = (b - a) % 4294967296 - 4294967296 := by unfold wrap32; omega
    rw [e]
    clear e
    go_enter Try.func14, Try.ntmps14
    go_wp2_with (go_at_call 15; refine (place_any _ _).mono ?_; rintro e w' ⟨rfl, rfl⟩; rw [H.out])
    go_ret
    exact ⟨rfl, rfl⟩
  · have e : wrap32 (b - a) = (b - a) % 4294967296 := by unfold wrap32; omega
    rw [e]
    clear e
    go_enter Try.func14, Try.ntmps14
    go_wp2_with (go_at_call 15; refine (place_any _ _).mono ?_; rintro e w' ⟨rfl, rfl⟩; rw [H.out])
    go_ret
    exact ⟨rfl, rfl⟩

theorem within01_any (x f l : Int) (w : World) : Calls Try.prog 17 #[.int .i64 x, .int .i64 f, .int .i64 l] w fun e w' => e = .returned (.bool (decide ((x - f) % 4294967296 < l))) ∧ w = w' := by
  have h : wrap64 (x - f) % 4294967296 = (x - f) % 4294967296 := by unfold wrap64; omega
  have H := Lib.hid h
  clear h
  go_enter Try.func17, Try.ntmps17
  go_wp2_with (go_at_call 15; refine (place_any _ _).mono ?_; rintro e w' ⟨rfl, rfl⟩; rw [H.out])
  go_ret
  exact ⟨rfl, rfl⟩

end Go.Proofs.Ytnpmelonkcgpgaa
