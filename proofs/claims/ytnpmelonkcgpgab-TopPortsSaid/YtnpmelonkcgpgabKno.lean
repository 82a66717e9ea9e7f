/- ported11 where the pool may not be, and knowsPorts11. -/
import Derived.Test.YtnpmelonkcgpgabPort6
import Derived.Test.YtnpmelonkcgpgabStructs
namespace Go.Proofs.Ytnpmelonkcgpgab
open Go.RowKit
set_option linter.unusedVariables false
set_option linter.unusedSimpArgs false

theorem act_tri : ∀ l : List Act3, actCells l = triCells .u8 .u8 .i16 l
  | [] => rfl
  | a :: l => by simp only [actCells, triCells, act_tri l]

set_option maxRecDepth 100000 in
theorem ported_zero (hi rest : Int) (v : Value) (w : World) (h0 : 0 ≤ hi) (h1 : hi < 65536) (hv : ∃ A n c, v = .slice A n c) : Calls Try.prog 5 #[.int .i64 0, .int .i64 hi, .int .u64 rest, v] w fun e w' => e = .returned (.tuple #[.int .i64 0, .bool true]) ∧ w = w' := by
  obtain ⟨A, n, c, rfl⟩ := hv
  have hb := new_bad 0 hi rest w (by simp)
  have e1 : IntKind.u16.wrap hi = hi := IntWalk.u16_in _ (by omega)
  go_enter Try.func5, Try.ntmps5
  go_wp2_with (go_at_call 6; refine hb.mono ?_; rintro e w' ⟨rfl, rfl⟩)
  go_ret2
  exact ⟨rfl, rfl⟩

set_option maxRecDepth 100000 in
theorem ported_late (lo hi rest : Int) (v : Value) (w : World) (hlo : 0 < lo) (hlh : lo ≤ hi) (h1 : hi < 65536) (hr : 1099511627776 < rest) (hv : ∃ A n c, v = .slice A n c) : Calls Try.prog 5 #[.int .i64 lo, .int .i64 hi, .int .u64 rest, v] w fun e w' => e = .returned (.tuple #[.int .i64 0, .bool true]) ∧ w = w' := by
  obtain ⟨A, n, c, rfl⟩ := hv
  have hb := new_bad lo hi rest w (by simp; omega)
  have e1 : IntKind.u16.wrap hi = hi := IntWalk.u16_in _ (by omega)
  have e2 : IntKind.u16.wrap lo = lo := IntWalk.u16_in _ (by omega)
  have h1 : (lo == 0) = false := by simp; omega
  have h2 : decide (hi < lo) = false := by simp; omega
  go_enter Try.func5, Try.ntmps5
  go_wp2_with (go_at_call 6; refine hb.mono ?_; rintro e w' ⟨rfl, rfl⟩)
  go_ret2
  exact ⟨rfl, rfl⟩

theorem row_new (w : World) (cs : List Value) (t : TypeId) (fr : Nat × Nat) : Sl (w.alloc (.cells cs.toArray t fr)) (some ⟨w.heap.size, 0, none⟩) cs :=
  fun _ => ⟨_, 0, rfl, fun j v hj => by rw [World.cell?_alloc_mark, Nat.zero_add]; simpa using hj⟩

def kn0 : PoolS := ⟨5, 6, 10, 0, [], []⟩
def kn1 : PoolS := (kn0.at_ 1).take 5
def kn2 : PoolS := (kn1.at_ 1).take 6
def kn3 : PoolS := kn2.at_ 1
def kn4 : PoolS := (kn3.at_ 3).give 5
def kn5 : PoolS := kn4.at_ 12
def kn6 : PoolS := (kn5.at_ 13).take 5
def knActs : List Act3 := [(0, 0, 1), (0, 0, 0), (0, 0, 0), (2, 1, 2), (0, 0, 9), (0, 0, 1), (2, 0, 1), (4, 0, -9), (5, 0, 0), (0, 0, -30000)]

theorem both (f : Int → Bool) (h5 : f 5 = false) (h6 : f 6 = false) (lo hi : Int) (hl : lo = 5) (hh : hi = 6) : ∀ j, lo ≤ j → j ≤ hi → f j = false := by
  intro j h0 h1
  obtain rfl | rfl : j = 5 ∨ j = 6 := by omega
  · exact h5
  · exact h6

abbrev Takes (n : Int) (p p' : PoolS) (k r : Int) : Prop := ∀ b bt bu w, PoolAt w b bt bu p → Calls Try.prog 7 #[.pointer (some ⟨b, 0, none⟩), .int .u64 n] w fun e w' => e = .returned (.tuple #[.int .u16 k, .int .i64 r]) ∧ PoolAt w' b bt bu p' ∧ Only [b, bt, bu] w w'

theorem kt1 : Takes 1 kn0 kn1 5 0 := fun b bt bu w h => take_some b bt bu kn0 1 5 w h (by omega) (by decide +kernel) (by decide +kernel) (by decide +kernel) (by decide +kernel) (by decide +kernel) (by decide +kernel) (fun j h0 h1 => by have : (5 : Int) ≤ j := h0; omega)
theorem kt2 : Takes 1 kn1 kn2 6 0 := fun b bt bu w h => take_some b bt bu kn1 1 6 w h (by omega) (by decide +kernel) (by decide +kernel) (by decide +kernel) (by decide +kernel) (by decide +kernel) (by decide +kernel) (fun j h0 h1 => by
  have h2 : (5 : Int) ≤ j := h0
  obtain rfl : j = 5 := by omega
  decide +kernel)
theorem kt3 : Takes 1 kn2 kn3 0 7 := fun b bt bu w h => take_full b bt bu kn2 1 w h (by omega) (by decide +kernel) (by decide +kernel) (by decide +kernel) (both _ (by decide +kernel) (by decide +kernel) _ _ rfl rfl)
theorem kt5 : Takes 12 kn4 kn5 0 7 := fun b bt bu w h => take_full b bt bu kn4 12 w h (by omega) (by decide +kernel) (by decide +kernel) (by decide +kernel) (both _ (by decide +kernel) (by decide +kernel) _ _ rfl rfl)
theorem kt6 : Takes 13 kn5 kn6 5 0 := fun b bt bu w h => take_some b bt bu kn5 13 5 w h (by omega) (by decide +kernel) (by decide +kernel) (by decide +kernel) (by decide +kernel) (by decide +kernel) (by decide +kernel) (fun j h0 h1 => by have : (5 : Int) ≤ j := h0; omega)
theorem kt4 (b bt bu : Nat) (w : World) (h : PoolAt w b bt bu kn3) : Calls Try.prog 8 #[.pointer (some ⟨b, 0, none⟩), .int .u16 5, .int .u64 3] w fun e w' => e = .returned (.int .i64 0) ∧ PoolAt w' b bt bu kn4 ∧ Only [b, bt, bu] w w' :=
  give_ok b bt bu kn3 5 3 w h (by omega) (by decide +kernel) (by decide +kernel) (by decide +kernel) (by decide +kernel) (by decide +kernel)

theorem kact (w : World) (t : TypeId) (fr : Nat × Nat) (cs : Array Value) (hcs : cs = (actCells knActs).toArray) : Calls Try.prog 5 #[.int .i64 5, .int .i64 6, .int .u64 10, .slice (some ⟨w.heap.size, 0, none⟩) 10 10] (w.alloc (.cells cs t fr)) fun e w' =>
    e = .returned (.tuple #[.int .i64 3, .bool true]) ∧ Below (w.heap.size + 1) (w.alloc (.cells cs t fr)) w' := by
  subst hcs
  have := ported_ok 5 6 10 (some ⟨w.heap.size, 0, none⟩) knActs 10 _ (by omega) (by omega) (by omega) (by omega) (by omega) (row_new w (actCells knActs) t fr) (by decide +kernel) (by decide +kernel) (by decide +kernel)
  rw [show noteRun ⟨5, 6, 10, 0, [], []⟩ knActs = 3 by decide +kernel] at this
  rw [show knActs.length = 10 from rfl] at this
  simpa using this

theorem below_only {B : Nat} {S : List Nat} {w w1 w2 : World} (h : Below B w w1) (ho : Only S w1 w2) (hB : B ≤ w.heap.size) (hs : ∀ k ∈ S, B ≤ k) : Below B w w2 :=
  h.trans (ho.toBelow (Nat.le_trans hB h.size) hs)

set_option maxHeartbeats 1000000 in
theorem knows_any (w : World) : Calls Try.prog 4 #[] w fun e w' => e = .returned (.bool true) ∧ Below w.heap.size w w' := by
  go_enter Try.func4, Try.ntmps4
  go_wp2_with (first
    | (go_at_call 6; (with_reducible refine (new_ok 5 6 10 _ (by decide) (by decide) (by decide)).mono ?_); rintro e w1 ⟨rfl, hp1, hs1, hb1⟩)
    | (go_at_call 7; (with_reducible refine (kt1 _ _ _ _ hp1).mono ?_); rintro e w2 ⟨rfl, hp2, ho2⟩; have hb2 := below_only hb1 ho2 (Nat.le_refl _) (by simp); clear hp1 ho2 hb1)
    | (go_at_call 7; (with_reducible refine (kt2 _ _ _ _ hp2).mono ?_); rintro e w3 ⟨rfl, hp3, ho3⟩; have hb3 := below_only hb2 ho3 (Nat.le_refl _) (by simp); clear hp2 ho3 hb2)
    | (go_at_call 7; (with_reducible refine (kt3 _ _ _ _ hp3).mono ?_); rintro e w4 ⟨rfl, hp4, ho4⟩; have hb4 := below_only hb3 ho4 (Nat.le_refl _) (by simp); clear hp3 ho4 hb3)
    | (go_at_call 8; (with_reducible refine (kt4 _ _ _ _ hp4).mono ?_); rintro e w5 ⟨rfl, hp5, ho5⟩; have hb5 := below_only hb4 ho5 (Nat.le_refl _) (by simp); clear hp4 ho5 hb4)
    | (go_at_call 7; (with_reducible refine (kt5 _ _ _ _ hp5).mono ?_); rintro e w6 ⟨rfl, hp6, ho6⟩; have hb6 := below_only hb5 ho6 (Nat.le_refl _) (by simp); clear hp5 ho6 hb5)
    | (go_at_call 7; (with_reducible refine (kt6 _ _ _ _ hp6).mono ?_); rintro e w7 ⟨rfl, hp7, ho7⟩; have hb7 := below_only hb6 ho7 (Nat.le_refl _) (by simp); clear hp6 ho7 hb6)
    | (go_at_call 6; (with_reducible refine (new_bad 0 6 1 _ (by decide)).mono ?_); rintro e w' ⟨rfl, rfl⟩)
    | (go_at_call 5; go_loud (refine (kact _ _ _ _ rfl).mono ?_; rintro e w8 ⟨rfl, hb8⟩)))
  go_ret
  exact ⟨rfl, hb7.trans ((bel_then hb8).mono hb7.size)⟩
end Go.Proofs.Ytnpmelonkcgpgab

