/- The pool's functions: what each call computes and changes. -/
import Derived.Test.YtnpmelonkcgpgabRows
import Derived.Test.YtnpmelonkcgpgabMapW
import Derived.Test.YtnpmelonkcgpgabClone
import Derived.Deep.QuietTactic
import Derived.BigQuiet
import Derived.Deep.RegionHeld3
import Derived.Deep.DrawnRows
import Derived.Lib.MinMax
namespace Go.Proofs.Ytnpmelonkcgpgab
open Go.RowKit
set_option linter.unusedVariables false
set_option linter.unusedSimpArgs false

structure PoolS where
  low : Int
  high : Int
  rest : Int
  now : Int
  taken : List (Int × Bool)
  til : List (Int × Int)

def PoolAt (w : World) (b bt bu : Nat) (p : PoolS) : Prop :=
  Blk w b 54 #[.int .u16 p.low, .int .u16 p.high, .int .u64 p.rest, .map (some bt), .map (some bu), .int .u64 p.now] ∧ Mp w (Value.int .u16) Value.bool bt p.taken ∧ Mp w (Value.int .u16) (Value.int .u64) bu p.til ∧ bt ≠ bu

theorem zero4 (w : World) : (zeroValue 4).run Try.prog w = .ok (.bool false) w := by kernel_rfl
theorem zero25 (w : World) : (zeroValue 25).run Try.prog w = .ok (.int .u64 0) w := by kernel_rfl

theorem PoolAt.cells {w : World} {b bt bu : Nat} {p : PoolS} (h : PoolAt w b bt bu p) :
    w.cell? ⟨b, 0, none⟩ = some (.int .u16 p.low) ∧ w.cell? ⟨b, 1, none⟩ = some (.int .u16 p.high) ∧ w.cell? ⟨b, 2, none⟩ = some (.int .u64 p.rest) ∧
    w.cell? ⟨b, 3, none⟩ = some (.map (some bt)) ∧ w.cell? ⟨b, 4, none⟩ = some (.map (some bu)) ∧ w.cell? ⟨b, 5, none⟩ = some (.int .u64 p.now) ∧ w.frozen? ⟨b, 5, none⟩ = false :=
  ⟨h.1.cell 0, h.1.cell 1, h.1.cell 2, h.1.cell 3, h.1.cell 4, h.1.cell 5, h.1.frozen 5⟩

theorem none_any (b bt bu : Nat) (p : PoolS) (w : World) (h : PoolAt w b bt bu p) :
    Calls Try.prog 15 #[.pointer (some ⟨b, 0, none⟩)] w fun e w' => e = .returned (.bool false) ∧ w = w' := by
  obtain ⟨c0, c1, c2, c3, c4, c5, _⟩ := h.cells
  have hm := fun (w : World) => run_eql_map_nil (P := Try.prog) w 51 22 4 (some bt) Try.underlying51
  go_enter Try.func15, Try.ntmps15
  go_wp2
  go_ret
  exact ⟨rfl, rfl⟩

theorem PoolAt.drewN {w : World} {b bt bu : Nat} {p : PoolS} (h : PoolAt w b bt bu p) (n : Nat) : PoolAt (w.drewN n) b bt bu p := h

theorem all_any (b bt bu : Nat) (p : PoolS) (w : World) (h : PoolAt w b bt bu p) (h0 : 0 ≤ p.low) (h1 : p.low ≤ p.high) (h2 : p.high < 65536) :
    Calls Try.prog 17 #[.pointer (some ⟨b, 0, none⟩)] w fun e w' => e = .returned (.int .i64 (p.high - p.low + 1)) ∧ ∃ n, w' = w.drewN n := by
  obtain ⟨c0, c1, c2, c3, c4, c5, _⟩ := h.cells
  go_enter Try.func17, Try.ntmps17
  go_wp2_with fail
  go_quiet (fail)
  go_wp2
  go_ret
  exact ⟨rfl, _, rfl⟩

theorem free_any (b bt bu : Nat) (p : PoolS) (x : Int) (w : World) (h : PoolAt w b bt bu p) :
    Calls Try.prog 18 #[.pointer (some ⟨b, 0, none⟩), .int .u16 x] w fun e w' => e = .returned (.bool (!aget x false p.taken && decide (aget x 0 p.til ≤ p.now))) ∧ ∃ n, w' = w.drewN n := by
  obtain ⟨c0, c1, c2, c3, c4, c5, _⟩ := h.cells
  have k22 := int_key (P := Try.prog) Try.underlying22
  have l1 := fun n => (h.2.1.drewN n).look k22 Try.underlying51 zero4 x
  have l2 := fun n => (h.2.2.1.drewN n).look k22 Try.underlying52 zero25 x
  clear k22
  generalize aget x 0 p.til = u at *
  cases ht : aget x false p.taken
  all_goals
    rw [ht] at l1
    clear ht
    go_enter Try.func18, Try.ntmps18
    go_wp2_with fail
    go_quiet (fail)
    go_wp2
    go_ret
    exact ⟨rfl, _, rfl⟩

theorem taken_any (b bt bu : Nat) (p : PoolS) (x : Int) (w : World) (h : PoolAt w b bt bu p) :
    Calls Try.prog 13 #[.pointer (some ⟨b, 0, none⟩), .int .u16 x] w fun e w' => e = .returned (.bool (aget x false p.taken)) ∧ w = w' := by
  obtain ⟨c0, c1, c2, c3, c4, c5, _⟩ := h.cells
  have l1 := h.2.1.look (int_key (P := Try.prog) Try.underlying22) Try.underlying51 zero4 x
  go_enter Try.func13, Try.ntmps13
  go_wp2_with (go_at_call 15; refine (none_any _ _ _ _ _ h).mono ?_; rintro e w' ⟨rfl, rfl⟩)
  go_ret
  exact ⟨rfl, rfl⟩

theorem count_any (b bt bu : Nat) (p : PoolS) (w : World) (h : PoolAt w b bt bu p) :
    Calls Try.prog 14 #[.pointer (some ⟨b, 0, none⟩)] w fun e w' => e = .returned (.int .i64 p.taken.length) ∧ w = w' := by
  obtain ⟨c0, c1, c2, c3, c4, c5, _⟩ := h.cells
  have l1 := h.2.1.len (P := Try.prog) Try.underlying51
  go_enter Try.func14, Try.ntmps14
  go_wp2_with (go_at_call 15; refine (none_any _ _ _ _ _ h).mono ?_; rintro e w' ⟨rfl, rfl⟩)
  go_ret
  exact ⟨rfl, rfl⟩

/-- A new pool. -/
theorem new_bad (lo hi rest : Int) (w : World) (h : (lo == 0 || decide (hi < lo) || decide (1099511627776 < rest)) = true) :
    Calls Try.prog 6 #[.int .u16 lo, .int .u16 hi, .int .u64 rest] w fun e w' => e = .returned (.tuple #[.pointer none, .int .i64 1]) ∧ w = w' := by
  cases h1 : (lo == 0)
  · cases h2 : decide (hi < lo)
    · cases h3 : decide (1099511627776 < rest)
      · rw [h1, h2, h3] at h; cases h
      · go_enter Try.func6, Try.ntmps6
        go_wp2
        go_ret2
        exact ⟨rfl, rfl⟩
    · go_enter Try.func6, Try.ntmps6
      go_wp2
      go_ret2
      exact ⟨rfl, rfl⟩
  · go_enter Try.func6, Try.ntmps6
    go_wp2
    go_ret2
    exact ⟨rfl, rfl⟩

theorem new_ok (lo hi rest : Int) (w : World) (h1 : (lo == 0) = false) (h2 : decide (hi < lo) = false) (h3 : decide (1099511627776 < rest) = false) :
    Calls Try.prog 6 #[.int .u16 lo, .int .u16 hi, .int .u64 rest] w fun e w' => e = .returned (.tuple #[.pointer (some ⟨w.heap.size + 2, 0, none⟩), .int .i64 0]) ∧ PoolAt w' (w.heap.size + 2) w.heap.size (w.heap.size + 1) ⟨lo, hi, rest, 0, [], []⟩ ∧ w'.heap.size = w.heap.size + 3 ∧ Below w.heap.size w w' := by
  have hmm := @run_makeMap Try.prog
  go_enter Try.func6, Try.ntmps6
  go_wp2
  go_ret2
  refine ⟨rfl, ⟨?_, ?_, ?_, by omega⟩, by simp, (((Below.refl _ _).alloc (Nat.le_refl _) _).alloc (by simp) _).alloc (by simp; omega) _⟩
  · exact Blk.new_at _ _ _ (by simp)
  · exact ((Mp.made w _ _).alloc _).alloc _
  · exact (Mp.made_at (w.alloc _) _ _ (by simp)).alloc _

/-- Is a port free. -/
def PoolS.free (p : PoolS) (x : Int) : Bool := !aget x false p.taken && decide (aget x 0 p.til ≤ p.now)
def PoolS.at_ (p : PoolS) (now : Int) : PoolS := { p with now := max p.now now }
def PoolS.take (p : PoolS) (k : Int) : PoolS := { p with taken := aput k true p.taken, til := adel k p.til }
def PoolS.give (p : PoolS) (k : Int) : PoolS := { p with taken := adel k p.taken, til := aput k (p.now + p.rest) p.til }

theorem PoolAt.at_ {w : World} {b bt bu : Nat} {p : PoolS} (h : PoolAt w b bt bu p) (now : Int) : PoolAt (w.setCell ⟨b, 5, none⟩ (.int .u64 (max p.now now))) b bt bu (p.at_ now) :=
  ⟨h.1.set_ 5 _, h.2.1.setCell (h.2.1.ne_blk h.1) _, h.2.2.1.setCell (h.2.2.1.ne_blk h.1) _, h.2.2.2⟩

theorem at_any (b bt bu : Nat) (p : PoolS) (now : Int) (w : World) (h : PoolAt w b bt bu p) :
    Calls Try.prog 16 #[.pointer (some ⟨b, 0, none⟩), .int .u64 now] w fun e w' => e = .returned (.tuple #[]) ∧ PoolAt w' b bt bu (p.at_ now) ∧ Only [b, bt, bu] w w' := by
  obtain ⟨c0, c1, c2, c3, c4, c5, f5⟩ := h.cells
  go_enter Try.func16, Try.ntmps16
  go_wp2
  go_end0
  exact ⟨rfl, h.at_ now, (Only.refl _ _).setCell (.inl (by simp)) _⟩

theorem take_arg (b bt bu : Nat) (p : PoolS) (now : Int) (w : World) (h : PoolAt w b bt bu p) (hn : 1099511627776 < now) :
    Calls Try.prog 7 #[.pointer (some ⟨b, 0, none⟩), .int .u64 now] w fun e w' => e = .returned (.tuple #[.int .u16 0, .int .i64 1]) ∧ w = w' := by
  go_enter Try.func7, Try.ntmps7
  go_wp2_with (go_at_call 15; refine (none_any _ _ _ _ _ h).mono ?_; rintro e w' ⟨rfl, rfl⟩)
  go_ret2
  exact ⟨rfl, rfl⟩

theorem PoolAt.only {w w' : World} {b bt bu : Nat} {p : PoolS} {S : List Nat} (h : PoolAt w b bt bu p) (ho : Only S w w') (h0 : b ∉ S) (h1 : bt ∉ S) (h2 : bu ∉ S) : PoolAt w' b bt bu p :=
  ⟨h.1.only ho h0, h.2.1.only ho h1, h.2.2.1.only ho h2, h.2.2.2⟩

/-- What taking does to the world, in two steps. -/
theorem PoolAt.take_ {w : World} {b bt bu : Nat} {p : PoolS} (h : PoolAt w b bt bu p) (k : Int) :
    ∃ w2 w3, (Instr.mapUpdate 51 (.map (some bt)) (.int .u16 k) (.bool true)).run Try.prog w = .ok () w2 ∧ w2.cell? ⟨b, 4, none⟩ = some (.map (some bu)) ∧
      (Builtin.delete_ #[52, 22] 0 #[.map (some bu), .int .u16 k]).run Try.prog w2 = .ok (.tuple #[]) w3 ∧ PoolAt w3 b bt bu (p.take k) ∧ Only [b, bt, bu] w w3 := by
  obtain ⟨hb, ht, hu, hne⟩ := h
  obtain ⟨w2, r2, m2, t2⟩ := ht.put (int_key (P := Try.prog) Try.underlying22) Try.underlying51 k true
  have o2 : Only [bt] w w2 := t2.only (by simp)
  have hb2 := hb.only o2 (by simpa using (ht.ne_blk hb).symm)
  have hu2 := hu.only o2 (by simpa using hne.symm)
  obtain ⟨w3, r3, m3, t3⟩ := hu2.del (int_key (P := Try.prog) Try.underlying22) Try.underlying52 k 0
  have o3 : Only [bu] w2 w3 := t3.only (by simp)
  refine ⟨w2, w3, r2, hb2.cell 4, r3, ⟨hb2.only o3 (by simpa using (hu2.ne_blk hb2).symm), m2.only o3 (by simpa using hne), m3, hne⟩, ?_⟩
  exact (o2.mono (fun k hk _ => by simp at hk; simp [hk])).trans (o3.mono (fun k hk _ => by simp at hk; simp [hk]))

set_option maxHeartbeats 400000 in
theorem take_some (b bt bu : Nat) (p : PoolS) (now k : Int) (w : World) (h : PoolAt w b bt bu p) (hn : ¬ 1099511627776 < now) (h0 : 0 ≤ p.low) (h1 : p.low ≤ p.high) (h2 : p.high < 65536)
    (hk0 : p.low ≤ k) (hk1 : k ≤ p.high) (hf : (p.at_ now).free k = true) (hlt : ∀ j, p.low ≤ j → j < k → (p.at_ now).free j = false) :
    Calls Try.prog 7 #[.pointer (some ⟨b, 0, none⟩), .int .u64 now] w fun e w' => e = .returned (.tuple #[.int .u16 k, .int .i64 0]) ∧ PoolAt w' b bt bu ((p.at_ now).take k) ∧ Only [b, bt, bu] w w' := by
  have CA : Hid (∀ w, PoolAt w b bt bu (p.at_ now) → Calls Try.prog 17 #[.pointer (some ⟨b, 0, none⟩)] w fun e w' => e = .returned (.int .i64 (p.high - p.low + 1)) ∧ ∃ n, w' = w.drewN n) := fun w h => all_any _ _ _ (p.at_ now) w h h0 h1 h2
  have CF : Hid (∀ w x r, PoolAt w b bt bu (p.at_ now) → (p.at_ now).free x = r → Calls Try.prog 18 #[.pointer (some ⟨b, 0, none⟩), .int .u16 x] w fun e w' => e = .returned (.bool r) ∧ ∃ n, w' = w.drewN n) := fun w x r h hr => hr ▸ free_any _ _ _ (p.at_ now) x w h
  have Hf := Lib.hid hf
  have Hlt := Lib.hid hlt
  clear hf hlt
  go_enter Try.func7, Try.ntmps7
  go_wp2_with (first
    | (go_at_call 15; refine (none_any _ _ _ _ _ h).mono ?_; rintro e w' ⟨rfl, rfl⟩)
    | (go_at_call 16; refine (at_any _ _ _ _ _ _ h).mono ?_; rintro e w1 ⟨rfl, hp1, ho1⟩)
    | (go_at_call 17; refine (CA.out _ hp1).mono ?_; rintro e w2 ⟨rfl, n, rfl⟩))
  go_loopw [19] (fun s wr => ∃ i : Nat, (i : Int) ≤ k - p.low ∧ s = .int .i64 i ∧ ∃ n, wr = w1.drewN n) (fun s _ => (k - p.low).toNat - (intOf s).toNat)
  case atStart => exact ⟨0, by omega, rfl, _, rfl⟩
  case round =>
    obtain ⟨i, hi, rfl, m, rfl⟩ := hrel
    obtain ⟨c0, c1, c2, c3, c4, c5, f5⟩ := hp1.cells
    have c0' : w1.cell? ⟨b, 0, none⟩ = some (.int .u16 p.low) := c0
    clear c0 c1 c2 c4 c5
    by_cases hik : (i : Int) = k - p.low
    · have e1 : Hid ((p.at_ now).free (p.low + i) = true) := by have := Hf.out; rwa [show p.low + (i : Int) = k by omega]
      have Hik := Lib.hid hik
      clear hik
      go_wp2_with (go_at_call 18
                   (with_reducible refine (CF.out _ _ true (hp1.drewN m) e1.out).mono ?_)
                   rintro e w' ⟨rfl, n2, rfl⟩
                   obtain ⟨w2, w3, r2, c4', r3, hp3, ho3⟩ := (hp1.drewN (m + n2)).take_ (p.low + (i : Int))
                   have Hp3 := Lib.hid hp3
                   clear hp3)
      go_ret2
      have e2 : p.low + (i : Int) = k := by have := Hik.out; omega
      refine ⟨by rw [← e2]; rfl, by have := Hp3.out; rwa [e2] at this, ?_⟩
      exact (ho1.drewN _).trans ho3
    · have e1 : Hid ((p.at_ now).free (p.low + i) = false) := Hlt.out _ (by omega) (by omega)
      go_wp2_with (go_at_call 18
                   (with_reducible refine (CF.out _ _ false (hp1.drewN m) e1.out).mono ?_)
                   rintro e w' ⟨rfl, n2, rfl⟩)
      go_roundw
      case rel => exact ⟨i + 1, by omega, by go_num, _, rfl⟩
      case measure => simp [intOf]; omega

theorem take_full (b bt bu : Nat) (p : PoolS) (now : Int) (w : World) (h : PoolAt w b bt bu p) (hn : ¬ 1099511627776 < now) (h0 : 0 ≤ p.low) (h1 : p.low ≤ p.high) (h2 : p.high < 65536)
    (hlt : ∀ j, p.low ≤ j → j ≤ p.high → (p.at_ now).free j = false) :
    Calls Try.prog 7 #[.pointer (some ⟨b, 0, none⟩), .int .u64 now] w fun e w' => e = .returned (.tuple #[.int .u16 0, .int .i64 7]) ∧ PoolAt w' b bt bu (p.at_ now) ∧ Only [b, bt, bu] w w' := by
  have CA : Hid (∀ w, PoolAt w b bt bu (p.at_ now) → Calls Try.prog 17 #[.pointer (some ⟨b, 0, none⟩)] w fun e w' => e = .returned (.int .i64 (p.high - p.low + 1)) ∧ ∃ n, w' = w.drewN n) := fun w h => all_any _ _ _ (p.at_ now) w h h0 h1 h2
  have CF : Hid (∀ w x r, PoolAt w b bt bu (p.at_ now) → (p.at_ now).free x = r → Calls Try.prog 18 #[.pointer (some ⟨b, 0, none⟩), .int .u16 x] w fun e w' => e = .returned (.bool r) ∧ ∃ n, w' = w.drewN n) := fun w x r h hr => hr ▸ free_any _ _ _ (p.at_ now) x w h
  have Hlt := Lib.hid hlt
  clear hlt
  go_enter Try.func7, Try.ntmps7
  go_wp2_with (first
    | (go_at_call 15; refine (none_any _ _ _ _ _ h).mono ?_; rintro e w' ⟨rfl, rfl⟩)
    | (go_at_call 16; refine (at_any _ _ _ _ _ _ h).mono ?_; rintro e w1 ⟨rfl, hp1, ho1⟩)
    | (go_at_call 17; refine (CA.out _ hp1).mono ?_; rintro e w2 ⟨rfl, n, rfl⟩))
  go_loopw [19] (fun s wr => ∃ i : Nat, (i : Int) ≤ p.high - p.low + 1 ∧ s = .int .i64 i ∧ ∃ n, wr = w1.drewN n) (fun s _ => (p.high - p.low + 1).toNat - (intOf s).toNat)
  case atStart => exact ⟨0, by omega, rfl, _, rfl⟩
  case round =>
    obtain ⟨i, hi, rfl, m, rfl⟩ := hrel
    obtain ⟨c0, c1, c2, c3, c4, c5, f5⟩ := hp1.cells
    have c0' : w1.cell? ⟨b, 0, none⟩ = some (.int .u16 p.low) := c0
    clear c0 c1 c2 c4 c5
    by_cases hik : (i : Int) < p.high - p.low + 1
    · have e1 : Hid ((p.at_ now).free (p.low + i) = false) := Hlt.out _ (by omega) (by omega)
      go_wp2_with (go_at_call 18
                   (with_reducible refine (CF.out _ _ false (hp1.drewN m) e1.out).mono ?_)
                   rintro e w' ⟨rfl, n2, rfl⟩)
      go_roundw
      case rel => exact ⟨i + 1, by omega, by go_num, _, rfl⟩
      case measure => simp [intOf]; omega
    · go_wp2
      go_ret2
      exact ⟨rfl, hp1.drewN _, ho1.drewN _⟩

/-- How many of the first i ports are free. -/
def PoolS.freeTo (p : PoolS) : Nat → Int
  | 0 => 0
  | i + 1 => if p.free (p.low + i) then p.freeTo i + 1 else p.freeTo i
theorem PoolS.freeTo_le (p : PoolS) : ∀ i, 0 ≤ p.freeTo i ∧ p.freeTo i ≤ i
  | 0 => ⟨Int.le_refl _, Int.le_refl _⟩
  | i + 1 => by have := p.freeTo_le i; simp only [freeTo]; split <;> omega

theorem frees_any (b bt bu : Nat) (p : PoolS) (now : Int) (w : World) (h : PoolAt w b bt bu p) (hn : ¬ 1099511627776 < now) (h0 : 0 ≤ p.low) (h1 : p.low ≤ p.high) (h2 : p.high < 65536) :
    Calls Try.prog 10 #[.pointer (some ⟨b, 0, none⟩), .int .u64 now] w fun e w' => e = .returned (.int .i64 ((p.at_ now).freeTo (p.high - p.low + 1).toNat)) ∧ PoolAt w' b bt bu (p.at_ now) ∧ Only [b, bt, bu] w w' := by
  have CA : Hid (∀ w, PoolAt w b bt bu (p.at_ now) → Calls Try.prog 17 #[.pointer (some ⟨b, 0, none⟩)] w fun e w' => e = .returned (.int .i64 (p.high - p.low + 1)) ∧ ∃ n, w' = w.drewN n) := fun w h => all_any _ _ _ (p.at_ now) w h h0 h1 h2
  have CF : Hid (∀ w x r, PoolAt w b bt bu (p.at_ now) → (p.at_ now).free x = r → Calls Try.prog 18 #[.pointer (some ⟨b, 0, none⟩), .int .u16 x] w fun e w' => e = .returned (.bool r) ∧ ∃ n, w' = w.drewN n) := fun w x r h hr => hr ▸ free_any _ _ _ (p.at_ now) x w h
  go_enter Try.func10, Try.ntmps10
  go_wp2_with (first
    | (go_at_call 15; refine (none_any _ _ _ _ _ h).mono ?_; rintro e w' ⟨rfl, rfl⟩)
    | (go_at_call 16; refine (at_any _ _ _ _ _ _ h).mono ?_; rintro e w1 ⟨rfl, hp1, ho1⟩)
    | (go_at_call 17; refine (CA.out _ hp1).mono ?_; rintro e w2 ⟨rfl, n, rfl⟩))
  go_loopw [5, 18] (fun c s wr => ∃ i : Nat, (i : Int) ≤ p.high - p.low + 1 ∧ s = .int .i64 i ∧ c = .int .i64 ((p.at_ now).freeTo i) ∧ ∃ n, wr = w1.drewN n) (fun _ s _ => (p.high - p.low + 1).toNat - (intOf s).toNat)
  case atStart => exact ⟨0, by omega, rfl, rfl, _, rfl⟩
  case round =>
    obtain ⟨i, hi, rfl, rfl, m, rfl⟩ := hrel
    obtain ⟨c0, c1, c2, c3, c4, c5, f5⟩ := hp1.cells
    have c0' : w1.cell? ⟨b, 0, none⟩ = some (.int .u16 p.low) := c0
    clear c0 c1 c2 c4 c5
    have hfl := (p.at_ now).freeTo_le i
    by_cases hik : (i : Int) < p.high - p.low + 1
    · have Hs : Hid ((p.at_ now).freeTo (i + 1) = if (p.at_ now).free (p.low + i) then (p.at_ now).freeTo i + 1 else (p.at_ now).freeTo i) := rfl
      generalize (p.at_ now).freeTo i = fi at *
      cases e1 : (p.at_ now).free (p.low + i)
      all_goals
        rw [e1] at Hs
        have E1 := Lib.hid e1
        clear e1
        go_wp2_with (go_at_call 18
                     (with_reducible refine (CF.out _ _ _ (hp1.drewN m) E1.out).mono ?_)
                     rintro e w' ⟨rfl, n2, rfl⟩)
        go_roundw
        case rel => exact ⟨i + 1, by omega, by go_num, by rw [Hs.out]; rfl, _, rfl⟩
        case measure => simp [intOf]; omega
    · have e2 : (p.high - p.low + 1).toNat = i := by omega
      go_wp2
      go_ret
      exact ⟨rfl, hp1.drewN _, ho1.drewN _⟩

theorem frees_arg (b bt bu : Nat) (p : PoolS) (now : Int) (w : World) (h : PoolAt w b bt bu p) (hn : 1099511627776 < now) :
    Calls Try.prog 10 #[.pointer (some ⟨b, 0, none⟩), .int .u64 now] w fun e w' => e = .returned (.int .i64 0) ∧ w = w' := by
  go_enter Try.func10, Try.ntmps10
  go_wp2_with (go_at_call 15; refine (none_any _ _ _ _ _ h).mono ?_; rintro e w' ⟨rfl, rfl⟩)
  go_ret
  exact ⟨rfl, rfl⟩

theorem give_arg (b bt bu : Nat) (p : PoolS) (x now : Int) (w : World) (h : PoolAt w b bt bu p) (hn : 1099511627776 < now) :
    Calls Try.prog 8 #[.pointer (some ⟨b, 0, none⟩), .int .u16 x, .int .u64 now] w fun e w' => e = .returned (.int .i64 1) ∧ w = w' := by
  go_enter Try.func8, Try.ntmps8
  go_wp2_with (go_at_call 15; refine (none_any _ _ _ _ _ h).mono ?_; rintro e w' ⟨rfl, rfl⟩)
  go_ret
  exact ⟨rfl, rfl⟩

theorem give_none (b bt bu : Nat) (p : PoolS) (x now : Int) (w : World) (h : PoolAt w b bt bu p) (hn : ¬ 1099511627776 < now) (hx : aget x false p.taken = false) :
    Calls Try.prog 8 #[.pointer (some ⟨b, 0, none⟩), .int .u16 x, .int .u64 now] w fun e w' => e = .returned (.int .i64 6) ∧ w = w' := by
  obtain ⟨c0, c1, c2, c3, c4, c5, _⟩ := h.cells
  have l1 := h.2.1.look (int_key (P := Try.prog) Try.underlying22) Try.underlying51 zero4 x
  rw [hx] at l1
  clear hx
  go_enter Try.func8, Try.ntmps8
  go_wp2_with (go_at_call 15; refine (none_any _ _ _ _ _ h).mono ?_; rintro e w' ⟨rfl, rfl⟩)
  go_ret
  exact ⟨rfl, rfl⟩

/-- What giving back does to the world, in two steps. -/
theorem PoolAt.give_ {w : World} {b bt bu : Nat} {p : PoolS} (h : PoolAt w b bt bu p) (k : Int) :
    ∃ w2 w3, (Builtin.delete_ #[51, 22] 0 #[.map (some bt), .int .u16 k]).run Try.prog w = .ok (.tuple #[]) w2 ∧ 
      (w2.cell? ⟨b, 2, none⟩ = some (.int .u64 p.rest) ∧ w2.cell? ⟨b, 4, none⟩ = some (.map (some bu)) ∧ w2.cell? ⟨b, 5, none⟩ = some (.int .u64 p.now)) ∧
      (Instr.mapUpdate 52 (.map (some bu)) (.int .u16 k) (.int .u64 (p.now + p.rest))).run Try.prog w2.drew = .ok () w3 ∧ PoolAt w3 b bt bu (p.give k) ∧ Only [b, bt, bu] w w3 := by
  obtain ⟨hb, ht, hu, hne⟩ := h
  obtain ⟨w2, r2, m2, t2⟩ := ht.del (int_key (P := Try.prog) Try.underlying22) Try.underlying51 k 0
  have o2 : Only [bt] w w2 := t2.only (by simp)
  have hb2 := hb.only o2 (by simpa using (ht.ne_blk hb).symm)
  have hu2 := hu.only o2 (by simpa using hne.symm)
  obtain ⟨w3, r3, m3, t3⟩ := hu2.drew.put (int_key (P := Try.prog) Try.underlying22) Try.underlying52 k (p.now + p.rest)
  have o3 : Only [bu] w2.drew w3 := t3.only (by simp)
  refine ⟨w2, w3, r2, ⟨hb2.cell 2, hb2.cell 4, hb2.cell 5⟩, r3, ⟨hb2.drew.only o3 (by simpa using (hu2.ne_blk hb2).symm), m2.drew.only o3 (by simpa using hne), m3, hne⟩, ?_⟩
  exact ((o2.mono (fun k hk _ => by simp at hk; simp [hk])).drew).trans (o3.mono (fun k hk _ => by simp at hk; simp [hk]))

theorem give_ok (b bt bu : Nat) (p : PoolS) (x now : Int) (w : World) (h : PoolAt w b bt bu p) (hn : ¬ 1099511627776 < now) (hx : aget x false p.taken = true)
    (hn0 : 0 ≤ max p.now now) (hn1 : max p.now now ≤ 1099511627776) (hr0 : 0 ≤ p.rest) (hr : p.rest ≤ 1099511627776) :
    Calls Try.prog 8 #[.pointer (some ⟨b, 0, none⟩), .int .u16 x, .int .u64 now] w fun e w' => e = .returned (.int .i64 0) ∧ PoolAt w' b bt bu ((p.at_ now).give x) ∧ Only [b, bt, bu] w w' := by
  obtain ⟨c0, c1, c2, c3, c4, c5, _⟩ := h.cells
  have l1 := h.2.1.look (int_key (P := Try.prog) Try.underlying22) Try.underlying51 zero4 x
  rw [hx] at l1
  clear hx
  have hwr : IntKind.u64.wrap (max p.now now + p.rest) = max p.now now + p.rest := IntWalk.u64_in _ (by omega)
  go_enter Try.func8, Try.ntmps8
  go_wp2_with (first
    | (go_at_call 15; refine (none_any _ _ _ _ _ h).mono ?_; rintro e w' ⟨rfl, rfl⟩)
    | (go_at_call 16
       refine (at_any _ _ _ _ _ _ h).mono ?_
       rintro e w1 ⟨rfl, hp1, ho1⟩
       obtain ⟨d0, d1, d2, d3, d4, d5, _⟩ := hp1.cells
       obtain ⟨w2, w3, r2, ⟨e2, e4, e5⟩, r3, hp3, ho3⟩ := hp1.give_ x
       have e2' : w2.cell? ⟨b, 2, none⟩ = some (.int .u64 p.rest) := e2
       have e5' : w2.cell? ⟨b, 5, none⟩ = some (.int .u64 (max p.now now)) := e5
       have r3' : (Instr.mapUpdate 52 (.map (some bu)) (.int .u16 x) (.int .u64 (max p.now now + p.rest))).run Try.prog w2.drew = .ok () w3 := r3
       have g2 : w3.cell? ⟨b, 2, none⟩ = some (.int .u64 p.rest) := hp3.1.cell 2
       have g4 : w3.cell? ⟨b, 4, none⟩ = some (.map (some bu)) := hp3.1.cell 4
       have g5 : w3.cell? ⟨b, 5, none⟩ = some (.int .u64 (max p.now now)) := hp3.1.cell 5
       clear e2 e5 d0 d1 d2 d4 d5 r3))
  go_region_held3 (fun w' => w'.cell? ⟨b, 2, none⟩ = some (.int .u64 p.rest) ∧ w'.cell? ⟨b, 4, none⟩ = some (.map (some bu)) ∧ w'.cell? ⟨b, 5, none⟩ = some (.int .u64 (max p.now now))) (go_keep) (fail)
  go_wp2
  go_ret
  exact ⟨rfl, hp3, ho1.trans ho3⟩

/-- maps.Clone of the map of the ports that are taken. -/
theorem clone_taken (bt : Nat) (l : List (Int × Bool)) (w : World) (h : Mp w (Value.int .u16) Value.bool bt l) :
    Calls Try.prog 19 #[.map (some bt)] w fun e w' => e = .returned (.map (some w.heap.size)) ∧ Mp w' (Value.int .u16) Value.bool w.heap.size l ∧ w'.heap.size = w.heap.size + 1 ∧ Below w.heap.size w w' := by
  have hm := fun (w : World) => run_eql_map_nil (P := Try.prog) w 51 22 4 (some bt) Try.underlying51
  obtain ⟨es, clock, hb, hr⟩ := h
  have hc := run_clone w 51 hb
  have ha := fun (w : World) (v : Value) => run_assert_map (P := Try.prog) w 51 20 22 4 v Try.underlying51
  go_enter Try.func19, Try.ntmps19
  go_wp2
  go_ret
  exact ⟨rfl, ⟨es, clock, heap_alloc_new w _, hr⟩, by simp, bel_alloc _⟩

/-- maps.Clone of the map of the ports that rest. -/
theorem clone_til (bt : Nat) (l : List (Int × Int)) (w : World) (h : Mp w (Value.int .u16) (Value.int .u64) bt l) :
    Calls Try.prog 20 #[.map (some bt)] w fun e w' => e = .returned (.map (some w.heap.size)) ∧ Mp w' (Value.int .u16) (Value.int .u64) w.heap.size l ∧ w'.heap.size = w.heap.size + 1 ∧ Below w.heap.size w w' := by
  have hm := fun (w : World) => run_eql_map_nil (P := Try.prog) w 52 22 25 (some bt) Try.underlying52
  obtain ⟨es, clock, hb, hr⟩ := h
  have hc := run_clone w 52 hb
  have ha := fun (w : World) (v : Value) => run_assert_map (P := Try.prog) w 52 20 22 25 v Try.underlying52
  go_enter Try.func20, Try.ntmps20
  go_wp2
  go_ret
  exact ⟨rfl, ⟨es, clock, heap_alloc_new w _, hr⟩, by simp, bel_alloc _⟩

end Go.Proofs.Ytnpmelonkcgpgab
