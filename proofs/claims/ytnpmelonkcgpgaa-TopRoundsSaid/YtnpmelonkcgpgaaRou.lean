/- rounded01 and accepted01 answer true. -/
import Derived.Test.YtnpmelonkcgpgaaAcc
namespace Go.Proofs.Ytnpmelonkcgpgaa
open Go.RowKit
set_option linter.unusedVariables false
set_option linter.unusedSimpArgs false

theorem w32 {x : Int} : -2147483648 ≤ wrap32 x ∧ wrap32 x ≤ 2147483647 := by unfold wrap32; omega

set_option maxHeartbeats 400000 in
theorem rounded_any (a b l n : Int) (w : World) (ha : 0 ≤ a) (ha' : a < 4294967296) (hb : 0 ≤ b) (hb' : b < 4294967296) (hl : 0 ≤ l) (hl' : l < 4294967296) :
    Calls Try.prog 5 #[.int .u32 a, .int .u32 b, .int .u32 l, .int .i64 n] w fun e w' => e = .returned (.bool true) ∧ w = w' := by
  have e1 : ((a + n) % 4294967296 == (a + n % 4294967296) % 4294967296) = true := by simp
  have e2 : (((a + wrap32 (b - a)) % 4294967296) == b) = true := by
    have : (a + wrap32 (b - a)) % 4294967296 = b := by unfold wrap32; omega
    simp [this]
  obtain ⟨hw1, hw2⟩ := @w32 (b - a)
  have C14 : Hid (∀ w, Calls Try.prog 14 #[.int .i64 a, .int .i64 b] w fun e w' => e = .returned (.int .i64 (wrap32 (b - a))) ∧ w = w') := fun w => ahead01_any a b w
  have C10 : Hid (∀ w, Calls Try.prog 10 #[.int .u32 a, .int .u32 b] w fun e w' => e = .returned (.int .i32 (wrap32 (b - a))) ∧ w = w') := fun w => ahead_any a b w
  have C11 : Hid (∀ w, Calls Try.prog 11 #[.int .u32 a, .int .u32 b] w fun e w' => e = .returned (.bool (decide (0 < wrap32 (b - a)))) ∧ w = w') := fun w => less_any a b w
  have C16 : Hid (∀ w, Calls Try.prog 16 #[.int .u32 a, .int .u32 b] w fun e w' => e = .returned (.int .u32 (if 0 < wrap32 (b - a) then b else a)) ∧ w = w') := fun w => later_any a b w
  generalize wrap32 (b - a) = d at *
  by_cases hd : 0 < d
  · rw [if_pos hd] at C16
    go_enter Try.func5, Try.ntmps5
    go_wp2_with (first
      | (go_at_call 14; refine (C14.out _).mono ?_; rintro e w' ⟨rfl, rfl⟩)
      | (go_at_call 9; refine (add_any _ _ _).mono ?_; rintro e w' ⟨rfl, rfl⟩)
      | (go_at_call 15; refine (place_any _ _).mono ?_; rintro e w' ⟨rfl, rfl⟩)
      | (go_at_call 10; refine (C10.out _).mono ?_; rintro e w' ⟨rfl, rfl⟩)
      | (go_at_call 11; refine (C11.out _).mono ?_; rintro e w' ⟨rfl, rfl⟩)
      | (go_at_call 16; refine (C16.out _).mono ?_; rintro e w' ⟨rfl, rfl⟩)
      | (go_at_call 12; refine (within_any _ _ _ _).mono ?_; rintro e w' ⟨rfl, rfl⟩)
      | (go_at_call 17; refine (within01_any _ _ _ _).mono ?_; rintro e w' ⟨rfl, rfl⟩))
    go_ret
    exact ⟨rfl, rfl⟩
  · rw [if_neg hd] at C16
    go_enter Try.func5, Try.ntmps5
    go_wp2_with (first
      | (go_at_call 14; refine (C14.out _).mono ?_; rintro e w' ⟨rfl, rfl⟩)
      | (go_at_call 9; refine (add_any _ _ _).mono ?_; rintro e w' ⟨rfl, rfl⟩)
      | (go_at_call 15; refine (place_any _ _).mono ?_; rintro e w' ⟨rfl, rfl⟩)
      | (go_at_call 10; refine (C10.out _).mono ?_; rintro e w' ⟨rfl, rfl⟩)
      | (go_at_call 11; refine (C11.out _).mono ?_; rintro e w' ⟨rfl, rfl⟩)
      | (go_at_call 16; refine (C16.out _).mono ?_; rintro e w' ⟨rfl, rfl⟩)
      | (go_at_call 12; refine (within_any _ _ _ _).mono ?_; rintro e w' ⟨rfl, rfl⟩)
      | (go_at_call 17; refine (within01_any _ _ _ _).mono ?_; rintro e w' ⟨rfl, rfl⟩))
    go_ret
    exact ⟨rfl, rfl⟩
theorem acc_le {at_ n f l : Int} (h : n ≤ 0) : acceptB at_ n f l = (at_ == f || decide ((at_ - f) % 4294967296 < l)) := by rw [acceptB, if_pos h]
theorem acc_gt {at_ n f l : Int} (h : ¬ n ≤ 0) : acceptB at_ n f l = (decide ((at_ - f) % 4294967296 < l) || decide (((at_ + (n - 1)) % 4294967296 - f) % 4294967296 < l)) := by rw [acceptB, if_neg h]

set_option maxHeartbeats 400000 in
theorem accepted_core (at_ n f l : Int) (r : Bool) (w : World) (ha : 0 ≤ at_) (ha' : at_ < 4294967296) (hf : 0 ≤ f) (hf' : f < 4294967296) (hl : 0 ≤ l) (hl' : l < 4294967296) (hn : -32768 ≤ n) (hn' : n ≤ 32767)
    (C13 : Hid (∀ w, Calls Try.prog 13 #[.int .u32 at_, .int .i64 n, .int .u32 f, .int .u32 l] w fun e w' => e = .returned (.bool r) ∧ Below w.heap.size w w'))
    (hcase : (n ≤ 0 ∧ (at_ == f) = true ∧ r = true) ∨ (n ≤ 0 ∧ (at_ == f) = false ∧ l ≤ 0 ∧ r = false) ∨ (n ≤ 0 ∧ (at_ == f) = false ∧ 0 < l ∧ decide ((at_ - f) % 4294967296 < l) = r) ∨
      (0 < n ∧ l ≤ 0 ∧ r = false) ∨ (0 < n ∧ 0 < l ∧ decide ((at_ - f) % 4294967296 < l) = true ∧ r = true) ∨ (0 < n ∧ 0 < l ∧ decide ((at_ - f) % 4294967296 < l) = false ∧ decide ((at_ + n - 1 - f) % 4294967296 < l) = r)) :
    Calls Try.prog 6 #[.int .u32 at_, .int .i64 n, .int .u32 f, .int .u32 l] w fun e w' => e = .returned (.bool true) ∧ Below w.heap.size w w' := by
  rcases hcase with ⟨h1, h2, rfl⟩ | ⟨h1, h2, h3, rfl⟩ | ⟨h1, h2, h3, h4⟩ | ⟨h1, h2, rfl⟩ | ⟨h1, h2, h3, rfl⟩ | ⟨h1, h2, h3, h4⟩
  all_goals
    have h0 : (at_ == f) = true ∨ (at_ == f) = false := by cases (at_ == f) <;> simp
    try (rcases h0 with h0 | h0)
  all_goals
    try (cases r)
  all_goals
    first
    | (exfalso; simp_all; done)
    | (go_enter Try.func6, Try.ntmps6
       go_wp2_with (first
        | (go_at_call 13; refine (C13.out _).mono ?_; rintro e w' ⟨rfl, hb⟩)
        | (go_at_call 17; refine (within01_any _ _ _ _).mono ?_; rintro e w' ⟨rfl, rfl⟩))
       go_ret
       exact ⟨rfl, hb⟩)

theorem accepted_any (at_ n f l : Int) (w : World) (ha : 0 ≤ at_) (ha' : at_ < 4294967296) (hf : 0 ≤ f) (hf' : f < 4294967296) (hl : 0 ≤ l) (hl' : l < 4294967296) (hn : -32768 ≤ n) (hn' : n ≤ 32767) :
    Calls Try.prog 6 #[.int .u32 at_, .int .i64 n, .int .u32 f, .int .u32 l] w fun e w' => e = .returned (.bool true) ∧ Below w.heap.size w w' := by
  refine accepted_core at_ n f l (acceptB at_ n f l) w ha ha' hf hf' hl hl' hn hn' (fun w => accept_any at_ n f l w (by omega) (by omega)) ?_
  by_cases h1 : n ≤ 0
  · rw [acc_le h1]
    cases h2 : (at_ == f)
    · by_cases h3 : l ≤ 0
      · exact .inr (.inl ⟨h1, rfl, h3, by simp; omega⟩)
      · exact .inr (.inr (.inl ⟨h1, rfl, by omega, by simp⟩))
    · exact .inl ⟨h1, rfl, by simp⟩
  · rw [acc_gt h1]
    have e : ((at_ + (n - 1)) % 4294967296 - f) % 4294967296 = (at_ + n - 1 - f) % 4294967296 := by omega
    rw [e]
    by_cases h2 : l ≤ 0
    · exact .inr (.inr (.inr (.inl ⟨by omega, h2, by simp; omega⟩)))
    · cases h3 : decide ((at_ - f) % 4294967296 < l)
      · exact .inr (.inr (.inr (.inr (.inr ⟨by omega, by omega, rfl, by simp⟩))))
      · exact .inr (.inr (.inr (.inr (.inl ⟨by omega, by omega, rfl, by simp⟩))))

end Go.Proofs.Ytnpmelonkcgpgaa
