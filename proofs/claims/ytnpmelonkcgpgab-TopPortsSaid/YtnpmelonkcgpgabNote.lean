/- ports11: what somebody notes of each port. -/
import Derived.Test.YtnpmelonkcgpgabPool
namespace Go.Proofs.Ytnpmelonkcgpgab
open Go.RowKit
set_option linter.unusedVariables false
set_option linter.unusedSimpArgs false

structure NoteS where
  low : Int
  high : Int
  rest : Int
  now : Int
  taken : List (Int × Bool)
  fre : List (Int × Int)

def NoteAt (w : World) (b bt bu : Nat) (p : NoteS) : Prop :=
  Blk w b 43 #[.int .i64 p.low, .int .i64 p.high, .int .u64 p.rest, .map (some bt), .map (some bu), .int .u64 p.now] ∧ Mp w (Value.int .i64) Value.bool bt p.taken ∧ Mp w (Value.int .i64) (Value.int .u64) bu p.fre ∧ bt ≠ bu

theorem NoteAt.cells {w : World} {b bt bu : Nat} {p : NoteS} (h : NoteAt w b bt bu p) :
    w.cell? ⟨b, 0, none⟩ = some (.int .i64 p.low) ∧ w.cell? ⟨b, 1, none⟩ = some (.int .i64 p.high) ∧ w.cell? ⟨b, 2, none⟩ = some (.int .u64 p.rest) ∧
    w.cell? ⟨b, 3, none⟩ = some (.map (some bt)) ∧ w.cell? ⟨b, 4, none⟩ = some (.map (some bu)) ∧ w.cell? ⟨b, 5, none⟩ = some (.int .u64 p.now) ∧ w.frozen? ⟨b, 5, none⟩ = false :=
  ⟨h.1.cell 0, h.1.cell 1, h.1.cell 2, h.1.cell 3, h.1.cell 4, h.1.cell 5, h.1.frozen 5⟩

/-- Is a port free, as noted. -/
def NoteS.free (p : NoteS) (now x : Int) : Bool := !aget x false p.taken && decide (aget x 0 p.fre ≤ now)
/-- The least port that is free, and how many are, of the i highest ones. -/
def NoteS.leastTo (p : NoteS) (now : Int) : Nat → Int × Int
  | 0 => (0, 0)
  | i + 1 => if p.free now (p.high - i) then (p.high - i, (p.leastTo now i).2 + 1) else p.leastTo now i
theorem NoteS.leastTo_le (p : NoteS) (now : Int) : ∀ i, 0 ≤ (p.leastTo now i).2 ∧ (p.leastTo now i).2 ≤ i
  | 0 => ⟨Int.le_refl _, Int.le_refl _⟩
  | i + 1 => by have := p.leastTo_le now i; simp only [leastTo]; split <;> (try dsimp only) <;> omega

set_option maxHeartbeats 400000 in
theorem least_any (b bt bu : Nat) (p : NoteS) (now : Int) (w : World) (h : NoteAt w b bt bu p) (h0 : 0 ≤ p.low) (h1 : p.low ≤ p.high) (h2 : p.high < 65536) :
    Calls Try.prog 9 #[.pointer (some ⟨b, 0, none⟩), .int .u64 now] w fun e w' => e = .returned (.tuple #[.int .i64 (p.leastTo now (p.high - p.low + 1).toNat).1, .int .i64 (p.leastTo now (p.high - p.low + 1).toNat).2]) ∧ w = w' := by
  obtain ⟨c0, c1, c2, c3, c4, c5, _⟩ := h.cells
  have k3 := int_key (P := Try.prog) Try.underlying3
  have L1 : Hid (∀ x, (Instr.lookup 40 (.map (some bt)) (.int .i64 x) false).run Try.prog w = .ok (.bool (aget x false p.taken)) w) := fun x => h.2.1.look k3 Try.underlying40 zero4 x
  have L2 : Hid (∀ x, (Instr.lookup 41 (.map (some bu)) (.int .i64 x) false).run Try.prog w = .ok (.int .u64 (aget x 0 p.fre)) w) := fun x => h.2.2.1.look k3 Try.underlying41 zero25 x
  clear k3
  go_enter Try.func9, Try.ntmps9
  go_wp2
  go_loop [6, 7, 8] (fun f m k => ∃ i : Nat, (i : Int) ≤ p.high - p.low + 1 ∧ k = .int .i64 (p.high - i) ∧ f = .int .i64 (p.leastTo now i).1 ∧ m = .int .i64 (p.leastTo now i).2) (fun _ _ k => (intOf k - p.low + 1).toNat)
  case atStart => exact ⟨0, by omega, by simp, rfl, rfl⟩
  case round =>
    obtain ⟨i, hi, rfl, rfl, rfl⟩ := hrel
    by_cases hlt : (i : Int) < p.high - p.low + 1
    · have hs : p.leastTo now (i + 1) = if (!aget (p.high - i) false p.taken && decide (aget (p.high - i) 0 p.fre ≤ now)) then (p.high - i, (p.leastTo now i).2 + 1) else p.leastTo now i := rfl
      have hle := p.leastTo_le now i
      have l1 := L1.out (p.high - i)
      have l2 := L2.out (p.high - i)
      generalize aget (p.high - i) 0 p.fre = u at *
      generalize p.leastTo now i = fm at *
      cases ht : aget (p.high - i) false p.taken
      all_goals
        rw [ht] at l1 hs
        clear ht
        by_cases hu : u ≤ now
        · rw [decide_eq_true hu] at hs
          have Hs := Lib.hid hs
          clear hs
          go_wp2
          go_round
          case rel => exact ⟨i + 1, by omega, by go_num, by rw [Hs.out]; rfl, by rw [Hs.out]; rfl⟩
          case measure => simp [intOf]; omega
        · rw [decide_eq_false hu] at hs
          have Hs := Lib.hid hs
          clear hs
          go_wp2
          go_round
          case rel => exact ⟨i + 1, by omega, by go_num, by rw [Hs.out]; rfl, by rw [Hs.out]; rfl⟩
          case measure => simp [intOf]; omega
    · go_wp2
      go_ret2
      obtain rfl : i = (p.high - p.low + 1).toNat := by omega
      exact ⟨rfl, rfl⟩
end Go.Proofs.Ytnpmelonkcgpgab
