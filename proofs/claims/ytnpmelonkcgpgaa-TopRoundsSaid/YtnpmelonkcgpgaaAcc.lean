/- seq.Accept and what accepted01 asks of it. -/
import Derived.Test.YtnpmelonkcgpgaaSeq
namespace Go.Proofs.Ytnpmelonkcgpgaa
open Go.RowKit
set_option linter.unusedVariables false
set_option linter.unusedSimpArgs false

theorem in_any (x f l : Int) (b1 b2 : Nat) (w : World) (h1 : w.cell? ⟨b1, 0, none⟩ = some (.int .u32 f)) (h2 : w.cell? ⟨b2, 0, none⟩ = some (.int .u32 l)) :
    Calls Try.prog 18 #[.int .u32 x, .pointer (some ⟨b1, 0, none⟩), .pointer (some ⟨b2, 0, none⟩)] w fun e w' => e = .returned (.bool (decide ((x - f) % 4294967296 < l))) ∧ w = w' := by
  go_enter Try.func18, Try.ntmps18
  go_wp2_with (go_at_call 12; refine (within_any _ _ _ _).mono ?_; rintro e w' ⟨rfl, rfl⟩)
  go_ret
  exact ⟨rfl, rfl⟩

def acceptB (at_ n f l : Int) : Bool := if n ≤ 0 then at_ == f || decide ((at_ - f) % 4294967296 < l) else decide ((at_ - f) % 4294967296 < l) || decide (((at_ + (n - 1)) % 4294967296 - f) % 4294967296 < l)

set_option maxHeartbeats 400000 in
theorem accept_any (at_ n f l : Int) (w : World) (h63 : -9223372036854775808 ≤ n) (h64 : n ≤ 9223372036854775807) : Calls Try.prog 13 #[.int .u32 at_, .int .i64 n, .int .u32 f, .int .u32 l] w fun e w' => e = .returned (.bool (acceptB at_ n f l)) ∧ Below w.heap.size w w' := by
  by_cases hn : n ≤ 0
  · go_enter Try.func13, Try.ntmps13
    go_wp2_with (go_at_call 18; refine (in_any _ f l _ _ _ (by simp [go_sem]) (by simp [go_sem])).mono ?_; rintro e w' ⟨rfl, rfl⟩)
    all_goals
      go_ret
      exact ⟨by simp [acceptB, *], ((Below.refl _ _).alloc (Nat.le_refl _) _).alloc (by simp) _⟩
  · go_enter Try.func13, Try.ntmps13
    go_wp2_with (first | (go_at_call 18; refine (in_any _ f l _ _ _ (by simp [go_sem]) (by simp [go_sem])).mono ?_; rintro e w' ⟨rfl, rfl⟩) | (go_at_call 9; refine (add_any _ _ _).mono ?_; rintro e w' ⟨rfl, rfl⟩))
    all_goals
      go_ret
      exact ⟨by rw [acceptB, if_neg (by omega)]; simp [*], ((Below.refl _ _).alloc (Nat.le_refl _) _).alloc (by simp) _⟩
end Go.Proofs.Ytnpmelonkcgpgaa
