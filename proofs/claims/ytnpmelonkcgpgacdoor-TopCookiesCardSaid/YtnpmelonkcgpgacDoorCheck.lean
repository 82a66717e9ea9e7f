/- Cookies: what a cookie says, and whether it is good. -/
import Derived.Test.YtnpmelonkcgpgacDoorHash
import Derived.Deep.RegionHeld3
import Derived.Deep.DrawnRows
namespace Go.Proofs.YtnpmelonkcgpgacDoor
open Go.RowKit
set_option linter.unusedVariables false
set_option linter.unusedSimpArgs false
attribute [local go_sem ↓] Go.wp_at_zero Go.wp_at_succ

section
variable {key p s d sp dp c ep n tick : Int}

/-- A tuple in a variable of its own. -/
structure TupAt (w' : World) (B : Nat) (p s d sp dp : Int) : Prop where
  c0 : w'.cell? ⟨B, 0, none⟩ = some (.int .u8 p)
  c1 : w'.cell? ⟨B, 1, none⟩ = some (.int .u32 s)
  c2 : w'.cell? ⟨B, 2, none⟩ = some (.int .u32 d)
  c3 : w'.cell? ⟨B, 3, none⟩ = some (.int .u16 sp)
  c4 : w'.cell? ⟨B, 4, none⟩ = some (.int .u16 dp)
theorem TupAt.first (w : World) (p s d sp dp : Int) : TupAt (w.alloc (.cells #[.int .u8 p, .int .u32 s, .int .u32 d, .int .u16 sp, .int .u16 dp] 26)) w.heap.size p s d sp dp := by
  constructor <;> simp
theorem TupAt.below {w1 w2 : World} {B : Nat} (h : TupAt w1 B p s d sp dp) (hb : Below w1.heap.size w1 w2) : TupAt w2 B p s d sp dp :=
  ⟨(hb.cell (cell_lt h.c0)).trans h.c0, (hb.cell (cell_lt h.c1)).trans h.c1, (hb.cell (cell_lt h.c2)).trans h.c2, (hb.cell (cell_lt h.c3)).trans h.c3, (hb.cell (cell_lt h.c4)).trans h.c4⟩

def goodAt (key p s d sp dp c ep n : Int) : Bool := hashI key p s d sp dp c ep / 4294967296 % 4294967296 / 256 * 256 == n / 256 * 256

set_option maxHeartbeats 400000 in
theorem is_any (w : World) (bk bt bc bn : Nat) (ht : TupIn p s d sp dp c) (n0 : 0 ≤ n) (n1 : n < 4294967296)
    (h0 : w.cell? ⟨bk, 0, none⟩ = some (.int .u64 key))
    (h1 : w.cell? ⟨bt, 0, none⟩ = some (.int .u8 p)) (h2 : w.cell? ⟨bt, 1, none⟩ = some (.int .u32 s)) (h3 : w.cell? ⟨bt, 2, none⟩ = some (.int .u32 d)) (h4 : w.cell? ⟨bt, 3, none⟩ = some (.int .u16 sp)) (h5 : w.cell? ⟨bt, 4, none⟩ = some (.int .u16 dp))
    (h6 : w.cell? ⟨bc, 0, none⟩ = some (.int .u32 c)) (h7 : w.cell? ⟨bn, 0, none⟩ = some (.int .u32 n)) :
    Calls Tryd.prog 20 #[.int .u64 ep, .pointer (some ⟨bk, 0, none⟩), .pointer (some ⟨bt, 0, none⟩), .pointer (some ⟨bc, 0, none⟩), .pointer (some ⟨bn, 0, none⟩)] w fun e w' => e = .returned (.bool (goodAt key p s d sp dp c ep n)) ∧ Below w.heap.size w w' := by
  have HT := Lib.hid ht
  clear ht
  go_enter Tryd.func20, Tryd.ntmps20
  go_wp2_with (fail)
  go_region_held3 (fun w' => w'.cell? ⟨bk, 0, none⟩ = some (.int .u64 key) ∧ w'.cell? ⟨bt, 0, none⟩ = some (.int .u8 p) ∧ w'.cell? ⟨bt, 1, none⟩ = some (.int .u32 s) ∧ w'.cell? ⟨bt, 2, none⟩ = some (.int .u32 d) ∧ w'.cell? ⟨bt, 3, none⟩ = some (.int .u16 sp) ∧ w'.cell? ⟨bt, 4, none⟩ = some (.int .u16 dp) ∧ w'.cell? ⟨bc, 0, none⟩ = some (.int .u32 c) ∧ w'.cell? ⟨bn, 0, none⟩ = some (.int .u32 n)) (first | exact ⟨g0, g1, g2, g3, g4, g5, g6, g7⟩ | go_keep) (first
    | (go_at_call 8
       go_loud (
        (with_reducible refine (hash_any _ HT.out).mono ?_)
        rintro e w1 ⟨rfl, hb1⟩
        have g0 := (hb1.cell (cell_lt (w := w) h0)).trans h0
        have g1 := (hb1.cell (cell_lt (w := w) h1)).trans h1
        have g2 := (hb1.cell (cell_lt (w := w) h2)).trans h2
        have g3 := (hb1.cell (cell_lt (w := w) h3)).trans h3
        have g4 := (hb1.cell (cell_lt (w := w) h4)).trans h4
        have g5 := (hb1.cell (cell_lt (w := w) h5)).trans h5
        have g6 := (hb1.cell (cell_lt (w := w) h6)).trans h6
        have g7 := (hb1.cell (cell_lt (w := w) h7)).trans h7))
    | (go_at_call 14; (with_reducible refine (top_any _ _).mono ?_); rintro e w2 ⟨rfl, rfl⟩))
  go_wp2
  go_ret
  exact ⟨by rw [IntWalk.u32_in _ (by omega)]; rfl, ⟨hb1.os, hb1.tape, hb1.output, hb1.size, hb1.block⟩⟩

theorem in_u32 {x : Int} (h : (Lit.int .u32 x).wf = true) : 0 ≤ x ∧ x < 4294967296 := by
  simp [Lit.wf, IntKind.min, IntKind.max, IntKind.signed, IntKind.bits] at h; omega
def clsI (n : Int) : Int := bits BinOp.and IntKind.u32 (n / 32) 7
def sackI (n : Int) : Int := bits BinOp.and IntKind.u32 (n / 16) 1
def lowI (n : Int) : Int := bits BinOp.and IntKind.u32 n 15
def sclI (n : Int) : Int := if lowI n = 15 then -1 else lowI n
/-- What a number says. -/
def saidV (n : Int) : Value := .agg #[.int .i64 (clsI n), .bool (sackI n == 1), .int .i64 (sclI n)]

theorem said_any (w : World) : Calls Tryd.prog 18 #[.int .u32 n] w fun e w' => e = .returned (saidV n) ∧ Below w.heap.size w w' := by
  have c0 : 0 ≤ clsI n ∧ clsI n < 4294967296 := in_u32 (wf_bits _ _ _ _)
  have c1 : 0 ≤ lowI n ∧ lowI n < 4294967296 := in_u32 (wf_bits _ _ _ _)
  have e0 : bits BinOp.and IntKind.u32 (n / 32) 7 = clsI n := rfl
  have e1 : bits BinOp.and IntKind.u32 (n / 16) 1 = sackI n := rfl
  have e2 : bits BinOp.and IntKind.u32 n 15 = lowI n := rfl
  unfold saidV sclI
  generalize clsI n = A at *
  generalize sackI n = B at *
  generalize lowI n = C at *
  by_cases h : C = 15
  · rw [if_pos h]
    go_enter Tryd.func18, Tryd.ntmps18
    go_wp2
    refine bodyPost_ret (v := .agg #[.int .i64 A, .bool (B == 1), .int .i64 (-1)]) (by simp [results, Tryd.results18, go_sem]) rfl ?_
    refine ⟨rfl, ?_⟩
    exact bel_trans (bel_alloc _) (bel_alloc _)
  · rw [if_neg h]
    have h' : (C == 15) = false := by simpa using h
    go_enter Tryd.func18, Tryd.ntmps18
    go_wp2
    refine bodyPost_ret (v := .agg #[.int .i64 A, .bool (B == 1), .int .i64 C]) (by simp [results, Tryd.results18, go_sem]) rfl ?_
    refine ⟨rfl, ?_⟩
    exact bel_trans (bel_alloc _) (bel_alloc _)

/-- What Check has boxed, and its result's variable. -/
structure Cap (w' : World) (B : Nat) (key p s d sp dp c n : Int) : Prop where
  h0 : w'.cell? ⟨B, 0, none⟩ = some (.int .u64 key)
  h1 : w'.cell? ⟨B + 1, 0, none⟩ = some (.int .u8 p)
  h2 : w'.cell? ⟨B + 1, 1, none⟩ = some (.int .u32 s)
  h3 : w'.cell? ⟨B + 1, 2, none⟩ = some (.int .u32 d)
  h4 : w'.cell? ⟨B + 1, 3, none⟩ = some (.int .u16 sp)
  h5 : w'.cell? ⟨B + 1, 4, none⟩ = some (.int .u16 dp)
  h6 : w'.cell? ⟨B + 1 + 1, 0, none⟩ = some (.int .u32 c)
  h7 : w'.cell? ⟨B + 1 + 1 + 1, 0, none⟩ = some (.int .u32 n)
  r0 : w'.cell? ⟨B + 1 + 1 + 1 + 1, 0, none⟩ = some (.int .i64 0)
  r1 : w'.cell? ⟨B + 1 + 1 + 1 + 1, 1, none⟩ = some (.bool false)
  r2 : w'.cell? ⟨B + 1 + 1 + 1 + 1, 2, none⟩ = some (.int .i64 0)
  f0 : w'.frozen? ⟨B + 1 + 1 + 1 + 1, 0, none⟩ = false
  f1 : w'.frozen? ⟨B + 1 + 1 + 1 + 1, 1, none⟩ = false
  f2 : w'.frozen? ⟨B + 1 + 1 + 1 + 1, 2, none⟩ = false
  sz : B + 5 ≤ w'.heap.size

theorem Cap.below {w1 w2 : World} {B : Nat} (h : Cap w1 B key p s d sp dp c n) (hb : Below w1.heap.size w1 w2) : Cap w2 B key p s d sp dp c n := by
  have hz := h.sz
  have hs := hb.size
  exact ⟨(hb.cell (p := ⟨B, 0, none⟩) (by show B < _; omega)).trans h.h0, (hb.cell (p := ⟨B + 1, 0, none⟩) (by show B + 1 < _; omega)).trans h.h1, (hb.cell (p := ⟨B + 1, 1, none⟩) (by show B + 1 < _; omega)).trans h.h2,
    (hb.cell (p := ⟨B + 1, 2, none⟩) (by show B + 1 < _; omega)).trans h.h3, (hb.cell (p := ⟨B + 1, 3, none⟩) (by show B + 1 < _; omega)).trans h.h4, (hb.cell (p := ⟨B + 1, 4, none⟩) (by show B + 1 < _; omega)).trans h.h5,
    (hb.cell (p := ⟨B + 1 + 1, 0, none⟩) (by show B + 1 + 1 < _; omega)).trans h.h6, (hb.cell (p := ⟨B + 1 + 1 + 1, 0, none⟩) (by show B + 1 + 1 + 1 < _; omega)).trans h.h7,
    (hb.cell (p := ⟨B + 1 + 1 + 1 + 1, 0, none⟩) (by show B + 1 + 1 + 1 + 1 < _; omega)).trans h.r0, (hb.cell (p := ⟨B + 1 + 1 + 1 + 1, 1, none⟩) (by show B + 1 + 1 + 1 + 1 < _; omega)).trans h.r1, (hb.cell (p := ⟨B + 1 + 1 + 1 + 1, 2, none⟩) (by show B + 1 + 1 + 1 + 1 < _; omega)).trans h.r2,
    (hb.frozen (p := ⟨B + 1 + 1 + 1 + 1, 0, none⟩) (by show B + 1 + 1 + 1 + 1 < _; omega)).trans h.f0, (hb.frozen (p := ⟨B + 1 + 1 + 1 + 1, 1, none⟩) (by show B + 1 + 1 + 1 + 1 < _; omega)).trans h.f1, (hb.frozen (p := ⟨B + 1 + 1 + 1 + 1, 2, none⟩) (by show B + 1 + 1 + 1 + 1 < _; omega)).trans h.f2, by omega⟩

abbrev capW (w : World) (key p s d sp dp c n : Int) : World := ((((w.alloc (.cells #[.int .u64 key] 22)).alloc (.cells #[.int .u8 p, .int .u32 s, .int .u32 d, .int .u16 sp, .int .u16 dp] 26)).alloc (.cells #[.int .u32 c] 23)).alloc (.cells #[.int .u32 n] 23)).alloc (.cells #[.int .i64 0, .bool false, .int .i64 0] 29)
theorem cell_new (w : World) (cs : Array Value) (t : TypeId) (n i : Nat) (hn : n = w.heap.size) : (w.alloc (.cells cs t)).cell? ⟨n, i, none⟩ = cs[i]? := by subst hn; simp
theorem frozen_new (w : World) (cs : Array Value) (t : TypeId) (n i : Nat) (hn : n = w.heap.size) : (w.alloc (.cells cs t)).frozen? ⟨n, i, none⟩ = false := by subst hn; simp
theorem Cap.first (w : World) (key p s d sp dp c n : Int) : Cap (capW w key p s d sp dp c n) w.heap.size key p s d sp dp c n := by
  have b := fun i => cell_new (w.alloc (.cells #[.int .u64 key] 22)) #[.int .u8 p, .int .u32 s, .int .u32 d, .int .u16 sp, .int .u16 dp] 26 (w.heap.size + 1) i (by simp)
  have r := fun i => cell_new ((((w.alloc (.cells #[.int .u64 key] 22)).alloc (.cells #[.int .u8 p, .int .u32 s, .int .u32 d, .int .u16 sp, .int .u16 dp] 26)).alloc (.cells #[.int .u32 c] 23)).alloc (.cells #[.int .u32 n] 23)) #[.int .i64 0, .bool false, .int .i64 0] 29 (w.heap.size + 1 + 1 + 1 + 1) i (by simp)
  have f := fun i => frozen_new ((((w.alloc (.cells #[.int .u64 key] 22)).alloc (.cells #[.int .u8 p, .int .u32 s, .int .u32 d, .int .u16 sp, .int .u16 dp] 26)).alloc (.cells #[.int .u32 c] 23)).alloc (.cells #[.int .u32 n] 23)) #[.int .i64 0, .bool false, .int .i64 0] 29 (w.heap.size + 1 + 1 + 1 + 1) i (by simp)
  exact ⟨cell_alloc _ (cell_alloc _ (cell_alloc _ (cell_alloc _ (cell_new _ _ _ _ 0 rfl)))), cell_alloc _ (cell_alloc _ (cell_alloc _ (b 0))), cell_alloc _ (cell_alloc _ (cell_alloc _ (b 1))), cell_alloc _ (cell_alloc _ (cell_alloc _ (b 2))), cell_alloc _ (cell_alloc _ (cell_alloc _ (b 3))), cell_alloc _ (cell_alloc _ (cell_alloc _ (b 4))),
    cell_alloc _ (cell_alloc _ (cell_new _ _ _ _ 0 (by simp))), cell_alloc _ (cell_new _ _ _ _ 0 (by simp)), r 0, r 1, r 2, f 0, f 1, f 2, by simp [capW]⟩
theorem capW_below (w : World) (key p s d sp dp c n : Int) : Below w.heap.size w (capW w key p s d sp dp c n) :=
  bel_trans (bel_trans (bel_trans (bel_trans (bel_alloc _) (bel_alloc _)) (bel_alloc _)) (bel_alloc _)) (bel_alloc _)

theorem Cap.facts {w2 : World} {B : Nat} (h : Cap w2 B key p s d sp dp c n) :
    (∀ o, (w2.alloc o).cell? ⟨B + 1 + 1 + 1 + 1, 0, none⟩ = some (.int .i64 0)) ∧ (∀ o, (w2.alloc o).cell? ⟨B + 1 + 1 + 1 + 1, 1, none⟩ = some (.bool false)) ∧ (∀ o, (w2.alloc o).cell? ⟨B + 1 + 1 + 1 + 1, 2, none⟩ = some (.int .i64 0)) ∧
    (∀ o, (w2.alloc o).frozen? ⟨B + 1 + 1 + 1 + 1, 0, none⟩ = false) ∧ (∀ o, (w2.alloc o).frozen? ⟨B + 1 + 1 + 1 + 1, 1, none⟩ = false) ∧ (∀ o, (w2.alloc o).frozen? ⟨B + 1 + 1 + 1 + 1, 2, none⟩ = false) ∧
    ¬ B + 1 + 1 + 1 + 1 = w2.heap.size ∧ ¬ w2.heap.size = B + 1 + 1 + 1 + 1 := by
  have hz := h.sz
  refine ⟨fun o => cell_alloc (w := w2) o h.r0, fun o => cell_alloc (w := w2) o h.r1, fun o => cell_alloc (w := w2) o h.r2, fun o => ?_, fun o => ?_, fun o => ?_, by omega, by omega⟩
  · rw [World.frozen?_alloc_old _ _ _ (by show _ ≠ _; dsimp only; omega)]; exact h.f0
  · rw [World.frozen?_alloc_old _ _ _ (by show _ ≠ _; dsimp only; omega)]; exact h.f1
  · rw [World.frozen?_alloc_old _ _ _ (by show _ ≠ _; dsimp only; omega)]; exact h.f2

theorem is_cap {w : World} {B : Nat} (h : Cap w B key p s d sp dp c n) (ht : TupIn p s d sp dp c) (n0 : 0 ≤ n) (n1 : n < 4294967296) (ep : Int) (r : Bool) (hr : goodAt key p s d sp dp c ep n = r) :
    Calls Tryd.prog 20 #[.int .u64 ep, .pointer (some ⟨B, 0, none⟩), .pointer (some ⟨B + 1, 0, none⟩), .pointer (some ⟨B + 1 + 1, 0, none⟩), .pointer (some ⟨B + 1 + 1 + 1, 0, none⟩)] w fun e w' => e = .returned (.bool r) ∧ Below w.heap.size w w' :=
  hr ▸ is_any w _ _ _ _ ht n0 n1 h.h0 h.h1 h.h2 h.h3 h.h4 h.h5 h.h6 h.h7

set_option maxHeartbeats 1000000 in
/-- What Check answers. -/
theorem check_any (w : World) (ht : TupIn p s d sp dp c) (n0 : 0 ≤ n) (n1 : n < 4294967296) (k0 : 0 ≤ tick) (k1 : tick < 18446744073709551616) (is : Bool)
    (his : (goodAt key p s d sp dp c (tick / 64) n || (decide (64 ≤ tick) && goodAt key p s d sp dp c (tick / 64 - 1) n)) = is) :
    Calls Tryd.prog 17 #[.int .u64 key, tupV p s d sp dp, .int .u32 c, .int .u64 tick, .int .u32 n] w fun e w' => e = .returned (if is then .tuple #[saidV n, .int .i64 0] else .tuple #[.agg #[.int .i64 0, .bool false, .int .i64 0], .int .i64 25]) ∧ Below w.heap.size w w' := by
  have HT := Lib.hid ht
  have CW := Lib.hid (Cap.first w key p s d sp dp c n)
  have BW := Lib.hid (capW_below w key p s d sp dp c n)
  clear ht
  have c0 : 0 ≤ clsI n ∧ clsI n < 4294967296 := in_u32 (wf_bits _ _ _ _)
  have c1 : 0 ≤ lowI n ∧ lowI n < 4294967296 := in_u32 (wf_bits _ _ _ _)
  have e0 : bits BinOp.and IntKind.u32 (n / 32) 7 = clsI n := rfl
  have e1 : bits BinOp.and IntKind.u32 (n / 16) 1 = sackI n := rfl
  have e2 : bits BinOp.and IntKind.u32 n 15 = lowI n := rfl
  unfold saidV sclI
  generalize clsI n = S0 at *
  generalize sackI n = S1 at *
  generalize lowI n = S2 at *
  cases gA : goodAt key p s d sp dp c (tick / 64) n
  · by_cases h64 : 64 ≤ tick
    · have hz : (tick / 64 == 0) = false := by simp; omega
      cases gB : goodAt key p s d sp dp c (tick / 64 - 1) n
      · have GA := Lib.hid gA
        have GB := Lib.hid gB
        rw [gA, gB] at his
        simp at his
        subst his
        clear gA gB
        go_enter Tryd.func17, Tryd.ntmps17
        go_wp2_with (first
          | (go_at_call 20
             go_loud (
              have hc := CW.out
              have hq := is_cap hc HT.out n0 n1 _ _ GA.out
              (with_reducible refine hq.mono ?_)
              clear hc hq
              rintro e w1 ⟨rfl, hb1⟩
              have C1 := Lib.hid (CW.out.below hb1)))
          | (go_at_call 20
             go_loud (
              have hc := C1.out
              have hq := is_cap hc HT.out n0 n1 _ _ GB.out
              (with_reducible refine hq.mono ?_)
              clear hc hq
              rintro e w2 ⟨rfl, hb2⟩
              obtain ⟨-, -, -, -, -, -, -, h7, r0, r1, r2, f0, f1, f2, -⟩ := C1.out.below hb2)))
        refine bodyPost_ret (v := .tuple #[.agg #[.int .i64 0, .bool false, .int .i64 0], .int .i64 25]) (by simp [results, Tryd.results17, go_sem, r0, r1, r2]) rfl ?_
        exact ⟨rfl, ((((BW.out.trans (hb1.mono BW.out.size)).trans (hb2.mono (Nat.le_trans BW.out.size hb1.size))).setCell (by show _ ≤ w.heap.size + 1 + 1 + 1 + 1; omega) _).setCell (by show _ ≤ w.heap.size + 1 + 1 + 1 + 1; omega) _).setCell (by show _ ≤ w.heap.size + 1 + 1 + 1 + 1; omega) _⟩
      · have GA := Lib.hid gA
        have GB := Lib.hid gB
        rw [gA, gB] at his
        simp [h64] at his
        subst his
        clear gA gB
        by_cases h15 : S2 = 15
        · subst h15
          go_enter Tryd.func17, Tryd.ntmps17
          go_wp2_with (first
            | (go_at_call 20
               go_loud (
                have hc := CW.out
                have hq := is_cap hc HT.out n0 n1 _ _ GA.out
                (with_reducible refine hq.mono ?_)
                clear hc hq
                rintro e w1 ⟨rfl, hb1⟩
                have C1 := Lib.hid (CW.out.below hb1)))
            | (go_at_call 20
               go_loud (
                have hc := C1.out
                have hq := is_cap hc HT.out n0 n1 _ _ GB.out
                (with_reducible refine hq.mono ?_)
                clear hc hq
                rintro e w2 ⟨rfl, hb2⟩
                obtain ⟨-, -, -, -, -, -, -, h7, r0, r1, r2, f0, f1, f2, -⟩ := C1.out.below hb2
                obtain ⟨g0, g1, g2, g3, g4, g5, ne1, ne2⟩ := Cap.facts (C1.out.below hb2))))
          refine bodyPost_ret (v := .tuple #[.agg #[.int .i64 S0, .bool (S1 == 1), .int .i64 (-1)], .int .i64 0]) (by simp [results, Tryd.results17, go_sem, g0, g1, g2, ne1, ne2]) rfl ?_
          have hbe := (BW.out.trans (hb1.mono BW.out.size)).trans (hb2.mono (Nat.le_trans BW.out.size hb1.size))
          exact ⟨rfl, (((hbe.alloc hbe.size _).setCell (by show _ ≤ w.heap.size + 1 + 1 + 1 + 1; omega) _).setCell (by show _ ≤ w.heap.size + 1 + 1 + 1 + 1; omega) _).setCell (by show _ ≤ w.heap.size + 1 + 1 + 1 + 1; omega) _⟩
        · have h15' : (S2 == 15) = false := by simpa using h15
          go_enter Tryd.func17, Tryd.ntmps17
          go_wp2_with (first
            | (go_at_call 20
               go_loud (
                have hc := CW.out
                have hq := is_cap hc HT.out n0 n1 _ _ GA.out
                (with_reducible refine hq.mono ?_)
                clear hc hq
                rintro e w1 ⟨rfl, hb1⟩
                have C1 := Lib.hid (CW.out.below hb1)))
            | (go_at_call 20
               go_loud (
                have hc := C1.out
                have hq := is_cap hc HT.out n0 n1 _ _ GB.out
                (with_reducible refine hq.mono ?_)
                clear hc hq
                rintro e w2 ⟨rfl, hb2⟩
                obtain ⟨-, -, -, -, -, -, -, h7, r0, r1, r2, f0, f1, f2, -⟩ := C1.out.below hb2
                obtain ⟨g0, g1, g2, g3, g4, g5, ne1, ne2⟩ := Cap.facts (C1.out.below hb2))))
          refine bodyPost_ret (v := .tuple #[.agg #[.int .i64 S0, .bool (S1 == 1), .int .i64 S2], .int .i64 0]) (by simp [results, Tryd.results17, go_sem, g0, g1, g2, ne1, ne2]) rfl ?_
          have hbe := (BW.out.trans (hb1.mono BW.out.size)).trans (hb2.mono (Nat.le_trans BW.out.size hb1.size))
          exact ⟨rfl, (((hbe.alloc hbe.size _).setCell (by show _ ≤ w.heap.size + 1 + 1 + 1 + 1; omega) _).setCell (by show _ ≤ w.heap.size + 1 + 1 + 1 + 1; omega) _).setCell (by show _ ≤ w.heap.size + 1 + 1 + 1 + 1; omega) _⟩
    · have hz : (tick / 64 == 0) = true := by simp; omega
      have GA := Lib.hid gA
      rw [gA] at his
      simp [h64] at his
      subst his
      clear gA
      go_enter Tryd.func17, Tryd.ntmps17
      go_wp2_with (first
        | (go_at_call 20
           go_loud (
            have hc := CW.out
            have hq := is_cap hc HT.out n0 n1 _ _ GA.out
            (with_reducible refine hq.mono ?_)
            clear hc hq
            rintro e w1 ⟨rfl, hb1⟩
            obtain ⟨-, -, -, -, -, -, -, h7, r0, r1, r2, f0, f1, f2, -⟩ := CW.out.below hb1)))
      refine bodyPost_ret (v := .tuple #[.agg #[.int .i64 0, .bool false, .int .i64 0], .int .i64 25]) (by simp [results, Tryd.results17, go_sem, r0, r1, r2]) rfl ?_
      exact ⟨rfl, (((BW.out.trans (hb1.mono BW.out.size)).setCell (by show _ ≤ w.heap.size + 1 + 1 + 1 + 1; omega) _).setCell (by show _ ≤ w.heap.size + 1 + 1 + 1 + 1; omega) _).setCell (by show _ ≤ w.heap.size + 1 + 1 + 1 + 1; omega) _⟩
  · have GA := Lib.hid gA
    rw [gA] at his
    simp at his
    subst his
    clear gA
    by_cases h15 : S2 = 15
    · subst h15
      go_enter Tryd.func17, Tryd.ntmps17
      go_wp2_with (first
        | (go_at_call 20
           go_loud (
            have hc := CW.out
            have hq := is_cap hc HT.out n0 n1 _ _ GA.out
            (with_reducible refine hq.mono ?_)
            clear hc hq
            rintro e w1 ⟨rfl, hb1⟩
            obtain ⟨-, -, -, -, -, -, -, h7, r0, r1, r2, f0, f1, f2, -⟩ := CW.out.below hb1
            obtain ⟨g0, g1, g2, g3, g4, g5, ne1, ne2⟩ := Cap.facts (CW.out.below hb1))))
      refine bodyPost_ret (v := .tuple #[.agg #[.int .i64 S0, .bool (S1 == 1), .int .i64 (-1)], .int .i64 0]) (by simp [results, Tryd.results17, go_sem, g0, g1, g2, ne1, ne2]) rfl ?_
      have hbe := BW.out.trans (hb1.mono BW.out.size)
      exact ⟨rfl, (((hbe.alloc hbe.size _).setCell (by show _ ≤ w.heap.size + 1 + 1 + 1 + 1; omega) _).setCell (by show _ ≤ w.heap.size + 1 + 1 + 1 + 1; omega) _).setCell (by show _ ≤ w.heap.size + 1 + 1 + 1 + 1; omega) _⟩
    · have h15' : (S2 == 15) = false := by simpa using h15
      go_enter Tryd.func17, Tryd.ntmps17
      go_wp2_with (first
        | (go_at_call 20
           go_loud (
            have hc := CW.out
            have hq := is_cap hc HT.out n0 n1 _ _ GA.out
            (with_reducible refine hq.mono ?_)
            clear hc hq
            rintro e w1 ⟨rfl, hb1⟩
            obtain ⟨-, -, -, -, -, -, -, h7, r0, r1, r2, f0, f1, f2, -⟩ := CW.out.below hb1
            obtain ⟨g0, g1, g2, g3, g4, g5, ne1, ne2⟩ := Cap.facts (CW.out.below hb1))))
      refine bodyPost_ret (v := .tuple #[.agg #[.int .i64 S0, .bool (S1 == 1), .int .i64 S2], .int .i64 0]) (by simp [results, Tryd.results17, go_sem, g0, g1, g2, ne1, ne2]) rfl ?_
      have hbe := BW.out.trans (hb1.mono BW.out.size)
      exact ⟨rfl, (((hbe.alloc hbe.size _).setCell (by show _ ≤ w.heap.size + 1 + 1 + 1 + 1; omega) _).setCell (by show _ ≤ w.heap.size + 1 + 1 + 1 + 1; omega) _).setCell (by show _ ≤ w.heap.size + 1 + 1 + 1 + 1; omega) _⟩
end
end Go.Proofs.YtnpmelonkcgpgacDoor

