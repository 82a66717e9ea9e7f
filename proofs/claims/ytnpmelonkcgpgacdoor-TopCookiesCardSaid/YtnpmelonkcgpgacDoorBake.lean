/- Cookies: baked17 answers true. -/
import Derived.Test.YtnpmelonkcgpgacDoorMake
import Derived.Test.YtnpmelonkcgpgacDoorMapW
namespace Go.Proofs.YtnpmelonkcgpgacDoor
open Go.RowKit
set_option linter.unusedVariables false
set_option linter.unusedSimpArgs false
attribute [local go_sem ↓] Go.wp_at_zero Go.wp_at_succ

section
variable {key p s d sp dp c ep n tick cls scl later bit : Int} {sack : Bool}

/-- A cookie. -/
def madeI (key p s d sp dp c tick cls : Int) (sack : Bool) (scl : Int) : Int := bits BinOp.or IntKind.u32 (hashI key p s d sp dp c (tick / 64) / 1099511627776 * 256) (lowC cls sack scl)
theorem top_eq (hk : 0 ≤ key ∧ key < 18446744073709551616) : hashI key p s d sp dp c ep / 4294967296 % 4294967296 / 256 * 256 = hashI key p s d sp dp c ep / 1099511627776 * 256 ∧ 0 ≤ hashI key p s d sp dp c ep / 1099511627776 ∧ hashI key p s d sp dp c ep / 1099511627776 < 16777216 := by
  have h : 0 ≤ hashI key p s d sp dp c ep ∧ hashI key p s d sp dp c ep < 18446744073709551616 := foldI_in _ _ hk
  generalize hashI key p s d sp dp c ep = x at *
  omega

theorem make_bad (w : World) (h : cls < 0 ∨ 7 < cls ∨ scl < -1 ∨ 14 < scl) (hg : Glob w) : Calls Tryd.prog 7 #[.int .u64 key, tupV p s d sp dp, .int .u32 c, .int .u64 tick, infoV cls sack scl] w fun e w' => e = .returned (.tuple #[.int .u32 0, .int .i64 1]) ∧ Below w.heap.size w w' := by
  by_cases hc : cls < 0 ∨ 7 < cls
  · go_enter Tryd.func7, Tryd.ntmps7
    go_wp2_with (go_at_call 13; (with_reducible refine (size_bad _ _ hc).mono ?_); rintro e w1 ⟨rfl, rfl⟩)
    go_ret2
    exact ⟨rfl, bel_trans (bel_alloc _) (bel_alloc _)⟩
  · have hG := Lib.hid ((hg.below (bel_alloc (.cells #[.int .u8 p, .int .u32 s, .int .u32 d, .int .u16 sp, .int .u16 dp] 26))).below (bel_alloc (.cells #[.int .i64 cls, .bool sack, .int .i64 scl] 29)))
    obtain ⟨k, rfl⟩ : ∃ k : Nat, cls = k := ⟨cls.toNat, by omega⟩
    have hk8 : k < 8 := by omega
    by_cases hs : scl < -1
    · go_enter Tryd.func7, Tryd.ntmps7
      go_wp2_with (go_at_call 13; (with_reducible refine (size_ok k _ hk8 hG.out).mono ?_); rintro e w1 ⟨rfl, rfl⟩)
      go_ret2
      exact ⟨rfl, bel_trans (bel_alloc _) (bel_alloc _)⟩
    · have hs2 : 14 < scl := by omega
      go_enter Tryd.func7, Tryd.ntmps7
      go_wp2_with (go_at_call 13; (with_reducible refine (size_ok k _ hk8 hG.out).mono ?_); rintro e w1 ⟨rfl, rfl⟩)
      go_ret2
      exact ⟨rfl, bel_trans (bel_alloc _) (bel_alloc _)⟩

theorem make_ok (w : World) (h0 : 0 ≤ cls) (h1 : cls ≤ 7) (h2 : -1 ≤ scl) (h3 : scl ≤ 14) (hg : Glob w) (ht : TupIn p s d sp dp c) (hk : 0 ≤ key ∧ key < 18446744073709551616) (k0 : 0 ≤ tick) (k1 : tick < 4611686018427387904) :
    Calls Tryd.prog 7 #[.int .u64 key, tupV p s d sp dp, .int .u32 c, .int .u64 tick, infoV cls sack scl] w fun e w' => e = .returned (.tuple #[.int .u32 (madeI key p s d sp dp c tick cls sack scl), .int .i64 0]) ∧ Below w.heap.size w w' := by
  have hG := Lib.hid ((hg.below (bel_alloc (.cells #[.int .u8 p, .int .u32 s, .int .u32 d, .int .u16 sp, .int .u16 dp] 26))).below (bel_alloc (.cells #[.int .i64 cls, .bool sack, .int .i64 scl] 29)))
  obtain ⟨k, rfl⟩ : ∃ k : Nat, cls = k := ⟨cls.toNat, by omega⟩
  have hk8 : k < 8 := by omega
  have HT := Lib.hid ht
  have hte := top_eq (p := p) (s := s) (d := d) (sp := sp) (dp := dp) (c := c) (ep := tick / 64) hk
  have te := hte.1
  have T := fun w => top_any (hashI key p s d sp dp c (tick / 64)) w
  rw [te] at T
  have HTo := Lib.hid T
  unfold madeI lowC
  clear ht T te
  by_cases hs : scl < 0
  all_goals
    cases sack
    all_goals
      go_enter Tryd.func7, Tryd.ntmps7
      go_wp2_with (first
        | (go_at_call 13; (with_reducible refine (size_ok k _ hk8 hG.out).mono ?_); rintro e w1 ⟨rfl, rfl⟩)
        | (go_at_call 8; (with_reducible refine (hash_any _ HT.out).mono ?_); rintro e w2 ⟨rfl, hb2⟩)
        | (go_at_call 14; go_loud ((with_reducible refine (HTo.out _).mono ?_); rintro e w3 ⟨rfl, rfl⟩)))
      go_ret2
      exact ⟨rfl, bel_trans (bel_trans (bel_alloc _) (bel_alloc _)) hb2⟩

theorem in_u16 {x : Int} (h : (Lit.int .u16 x).wf = true) : 0 ≤ x ∧ x < 65536 := by
  simp [Lit.wf, IntKind.min, IntKind.max, IntKind.signed, IntKind.bits] at h; omega
theorem u64_wrap_in (x : Int) : 0 ≤ IntKind.u64.wrap x ∧ IntKind.u64.wrap x < 18446744073709551616 := by
  simp [IntKind.wrap, IntKind.bits, IntKind.signed]; omega
theorem u32_wrap_in (x : Int) : 0 ≤ IntKind.u32.wrap x ∧ IntKind.u32.wrap x < 4294967296 := by
  simp [IntKind.wrap, IntKind.bits, IntKind.signed]; omega

/-- The tuple from another port. -/
theorem other_at {w5 : World} {B : Nat} (h : TupAt w5 B p s d sp dp) (hne : ¬ B = w5.heap.size) (sp' : Int) :
    TupAt ((w5.alloc (.cells #[.int .u8 p, .int .u32 s, .int .u32 d, .int .u16 sp, .int .u16 dp] 26)).setCell ⟨w5.heap.size, 3, none⟩ (.int .u16 sp')) B p s d sp dp ∧
    TupAt ((w5.alloc (.cells #[.int .u8 p, .int .u32 s, .int .u32 d, .int .u16 sp, .int .u16 dp] 26)).setCell ⟨w5.heap.size, 3, none⟩ (.int .u16 sp')) w5.heap.size p s d sp' dp := by
  refine ⟨⟨cell_far (cell_alloc _ h.c0) hne, cell_far (cell_alloc _ h.c1) hne, cell_far (cell_alloc _ h.c2) hne, cell_far (cell_alloc _ h.c3) hne, cell_far (cell_alloc _ h.c4) hne⟩, ?_⟩
  have hb := (Blk.new w5 26 #[.int .u8 p, .int .u32 s, .int .u32 d, .int .u16 sp, .int .u16 dp]).set_ 3 (.int .u16 sp')
  exact ⟨hb.cell 0, hb.cell 1, hb.cell 2, hb.cell 3, hb.cell 4⟩

/-- A tuple and what a cookie is to say, each in a variable of its own. -/
structure Bk (w' : World) (B : Nat) (p s d sp dp cls : Int) (sack : Bool) (scl : Int) : Prop where
  c0 : w'.cell? ⟨B, 0, none⟩ = some (.int .u8 p)
  c1 : w'.cell? ⟨B, 1, none⟩ = some (.int .u32 s)
  c2 : w'.cell? ⟨B, 2, none⟩ = some (.int .u32 d)
  c3 : w'.cell? ⟨B, 3, none⟩ = some (.int .u16 sp)
  c4 : w'.cell? ⟨B, 4, none⟩ = some (.int .u16 dp)
  i0 : w'.cell? ⟨B + 1, 0, none⟩ = some (.int .i64 cls)
  i1 : w'.cell? ⟨B + 1, 1, none⟩ = some (.bool sack)
  i2 : w'.cell? ⟨B + 1, 2, none⟩ = some (.int .i64 scl)
abbrev bkW (w : World) (p s d sp dp cls : Int) (sack : Bool) (scl : Int) : World := (w.alloc (.cells #[.int .u8 p, .int .u32 s, .int .u32 d, .int .u16 sp, .int .u16 dp] 26)).alloc (.cells #[.int .i64 cls, .bool sack, .int .i64 scl] 29)
theorem Bk.first (w : World) (p s d sp dp cls : Int) (sack : Bool) (scl : Int) : Bk (bkW w p s d sp dp cls sack scl) w.heap.size p s d sp dp cls sack scl := by
  have h := (TupAt.first w p s d sp dp).below (bel_alloc (.cells #[.int .i64 cls, .bool sack, .int .i64 scl] 29))
  have i := fun i => cell_new (w.alloc (.cells #[.int .u8 p, .int .u32 s, .int .u32 d, .int .u16 sp, .int .u16 dp] 26)) #[.int .i64 cls, .bool sack, .int .i64 scl] 29 (w.heap.size + 1) i (by simp)
  exact ⟨h.c0, h.c1, h.c2, h.c3, h.c4, i 0, i 1, i 2⟩
theorem Bk.below {w1 w2 : World} {B : Nat} (h : Bk w1 B p s d sp dp cls sack scl) (hb : Below w1.heap.size w1 w2) : Bk w2 B p s d sp dp cls sack scl :=
  ⟨(hb.cell (cell_lt h.c0)).trans h.c0, (hb.cell (cell_lt h.c1)).trans h.c1, (hb.cell (cell_lt h.c2)).trans h.c2, (hb.cell (cell_lt h.c3)).trans h.c3, (hb.cell (cell_lt h.c4)).trans h.c4,
    (hb.cell (cell_lt h.i0)).trans h.i0, (hb.cell (cell_lt h.i1)).trans h.i1, (hb.cell (cell_lt h.i2)).trans h.i2⟩
theorem Bk.drewN {w1 : World} {B : Nat} (h : Bk w1 B p s d sp dp cls sack scl) : Bk w1.drew B p s d sp dp cls sack scl := ⟨h.c0, h.c1, h.c2, h.c3, h.c4, h.i0, h.i1, h.i2⟩
theorem bk_below (w : World) (p s d sp dp cls : Int) (sack : Bool) (scl : Int) : Below w.heap.size w (bkW w p s d sp dp cls sack scl) := bel_trans (bel_alloc _) (bel_alloc _)

set_option maxRecDepth 100000 in
set_option maxHeartbeats 1000000 in
theorem baked_bad (w : World) (h : cls < 0 ∨ 7 < cls ∨ scl < -1 ∨ 14 < scl) (hg : Glob w) (ht : TupIn p s d sp dp c) (hk : 0 ≤ key ∧ key < 18446744073709551616) (k0 : 0 ≤ tick) (k1 : tick < 4611686018427387904) :
    Calls Tryd.prog 4 #[.int .u64 key, tupV p s d sp dp, .int .u32 c, .int .u64 tick, infoV cls sack scl, .int .u64 later, .int .u8 bit] w fun e w' => e = .returned (.bool true) ∧ Below w.heap.size w w' := by
  have BB := Lib.hid (bk_below w p s d sp dp cls sack scl)
  have hG := Lib.hid (hg.below BB.out)
  have TF := Lib.hid (Bk.first w p s d sp dp cls sack scl)
  have HT := Lib.hid ht
  have hor : (decide (cls < 0) = true) ∨ (decide (cls < 0) = false ∧ decide (7 < cls) = true) ∨ (decide (cls < 0) = false ∧ decide (7 < cls) = false ∧ decide (scl < -1) = true) ∨ (decide (cls < 0) = false ∧ decide (7 < cls) = false ∧ decide (scl < -1) = false ∧ decide (14 < scl) = true) := by
    simp only [decide_eq_true_eq, decide_eq_false_iff_not]; omega
  have M := Lib.hid (fun w hg => make_bad (key := key) (p := p) (s := s) (d := d) (sp := sp) (dp := dp) (c := c) (tick := tick) (sack := sack) w h hg)
  clear hg ht h hk
  go_enter Tryd.func4, Tryd.ntmps4
  go_wp2_with (go_at_call 7; (with_reducible refine (M.out _ hG.out).mono ?_); rintro e w1 ⟨rfl, hb1⟩; have T1 := Lib.hid (TF.out.below hb1); obtain ⟨a0, a1, a2, a3, a4, a5, a6, a7⟩ := T1.out)
  go_region_held3 (fun w' => w'.cell? ⟨w.heap.size, 0, none⟩ = some (.int .u8 p) ∧ w'.cell? ⟨w.heap.size, 1, none⟩ = some (.int .u32 s) ∧ w'.cell? ⟨w.heap.size, 2, none⟩ = some (.int .u32 d) ∧ w'.cell? ⟨w.heap.size, 3, none⟩ = some (.int .u16 sp) ∧ w'.cell? ⟨w.heap.size, 4, none⟩ = some (.int .u16 dp)) (first | exact ⟨c0, c1, c2, c3, c4⟩ | exact ⟨b0, b1, b2, b3, b4⟩ | go_keep) (first
    | (go_at_call 8; (with_reducible refine (hash_any _ HT.out).mono ?_); rintro e w2 ⟨rfl, hb2⟩; have T2 := Lib.hid (T1.out.below ⟨hb2.os, hb2.tape, hb2.output, hb2.size, hb2.block⟩); obtain ⟨b0, b1, b2, b3, b4, b5, b6, b7⟩ := T2.out)
    | (go_at_call 9; (with_reducible refine (hash17_any _ HT.out).mono ?_); rintro e w3 ⟨rfl, hb3⟩; have T3 := Lib.hid (T2.out.below ⟨hb3.os, hb3.tape, hb3.output, hb3.size, hb3.block⟩); obtain ⟨c0, c1, c2, c3, c4, c5, c6, c7⟩ := T3.out))
  have fin : Hid (Below w.heap.size w w3) := Lib.hid (bel_trans BB.out (bel_trans hb1 (bel_trans ⟨hb2.os, hb2.tape, hb2.output, hb2.size, hb2.block⟩ ⟨hb3.os, hb3.tape, hb3.output, hb3.size, hb3.block⟩)))
  clear hb1 hb2 hb3
  rcases hor with h1 | ⟨h1, h2⟩ | ⟨h1, h2, h3⟩ | ⟨h1, h2, h3, h4⟩
  all_goals
    go_wp2
    go_ret
    exact ⟨rfl, fin.out⟩

theorem kmod (x : Int) : 0 ≤ x % 18446744073709551616 ∧ x % 18446744073709551616 < 18446744073709551616 := by omega
set_option maxRecDepth 100000 in
set_option maxHeartbeats 2000000 in
theorem baked_ok (w : World) (h0 : 0 ≤ cls) (h1 : cls ≤ 7) (h2 : -1 ≤ scl) (h3 : scl ≤ 14) (hg : Glob w) (ht : TupIn p s d sp dp c) (hk : 0 ≤ key ∧ key < 18446744073709551616) (k0 : 0 ≤ tick) (k1 : tick < 4611686018427387904) (l0 : 0 ≤ later) (l1 : later < 65536) (b0 : 0 ≤ bit) (b1 : bit < 256) :
    Calls Tryd.prog 4 #[.int .u64 key, tupV p s d sp dp, .int .u32 c, .int .u64 tick, infoV cls sack scl, .int .u64 later, .int .u8 bit] w fun e w' => e = .returned (.bool true) ∧ Below w.heap.size w w' := by
  have BB := Lib.hid (bk_below w p s d sp dp cls sack scl)
  have hG := Lib.hid (hg.below BB.out)
  have TF := Lib.hid (Bk.first w p s d sp dp cls sack scl)
  have HT := Lib.hid ht
  have x1 := in_u16 (wf_bits .xor .u16 sp 1)
  have HT2 := Lib.hid (show TupIn p s d (bits BinOp.xor IntKind.u16 sp 1) dp c from ⟨ht.p0, ht.p1, ht.s0, ht.s1, ht.d0, ht.d1, x1.1, x1.2, ht.b0, ht.b1, ht.c0, ht.c1⟩)
  have x2 : 0 ≤ (c + 1) % 4294967296 ∧ (c + 1) % 4294967296 < 4294967296 := by omega
  have HT3 := Lib.hid (show TupIn p s d sp dp ((c + 1) % 4294967296) from ⟨ht.p0, ht.p1, ht.s0, ht.s1, ht.d0, ht.d1, ht.a0, ht.a1, ht.b0, ht.b1, x2.1, x2.2⟩)
  have m1 := make_ok (key := key) (p := p) (s := s) (d := d) (sp := sp) (dp := dp) (c := c) (tick := tick) (sack := sack) (bkW w p s d sp dp cls sack scl) h0 h1 h2 h3 hG.out ht hk k0 k1
  have te := (top_eq (p := p) (s := s) (d := d) (sp := sp) (dp := dp) (c := c) (ep := tick / 64) hk).2
  have h17 := fun w => hash17_any (key := key) (ep := tick / 64) w ht
  have L1 := fun w => low_any (cls := cls) (sack := sack) (scl := scl) w h0 h1 h2 h3
  have nn : 0 ≤ madeI key p s d sp dp c tick cls sack scl ∧ madeI key p s d sp dp c tick cls sack scl < 4294967296 := in_u32 (wf_bits _ _ _ _)
  have Ed : bits BinOp.or IntKind.u32 (hashI key p s d sp dp c (tick / 64) / 1099511627776 * 256) (lowC cls sack scl) = madeI key p s d sp dp c tick cls sack scl := rfl
  generalize madeI key p s d sp dp c tick cls sack scl = N at *
  generalize hashI key p s d sp dp c (tick / 64) = H at *
  generalize lowC cls sack scl = lw at *
  have te1 : H / 1099511627776 % 4294967296 = H / 1099511627776 := Int.emod_eq_of_lt te.1 (by omega)
  have te2 : IntKind.u32.wrap (H / 1099511627776 * 256) = H / 1099511627776 * 256 := IntWalk.u32_in _ (by omega)
  have tq : IntKind.u64.wrap (tick.tdiv 64) = tick / 64 := IntWalk.u64_quo tick 64 (by omega)
  have M := Lib.hid m1
  have H17 := Lib.hid h17
  have L := Lib.hid L1
  clear hg ht m1 h17 L1 x1 x2
  go_enter Tryd.func4, Tryd.ntmps4
  go_wp2_with (go_at_call 7; (with_reducible refine M.out.mono ?_); rintro e w1 ⟨rfl, hb1⟩; have T1 := Lib.hid (TF.out.below hb1); obtain ⟨a0, a1, a2, a3, a4, a5, a6, a7⟩ := T1.out)
  go_region_held3 (fun w' => w'.cell? ⟨w.heap.size, 0, none⟩ = some (.int .u8 p) ∧ w'.cell? ⟨w.heap.size, 1, none⟩ = some (.int .u32 s) ∧ w'.cell? ⟨w.heap.size, 2, none⟩ = some (.int .u32 d) ∧ w'.cell? ⟨w.heap.size, 3, none⟩ = some (.int .u16 sp) ∧ w'.cell? ⟨w.heap.size, 4, none⟩ = some (.int .u16 dp)) (first | exact ⟨c0, c1, c2, c3, c4⟩ | exact ⟨e0, e1, e2, e3, e4⟩ | go_keep) (first
    | (go_at_call 8; (with_reducible refine (hash_any _ HT.out).mono ?_); rintro e w2 ⟨rfl, hb2⟩; have T2 := Lib.hid (T1.out.below ⟨hb2.os, hb2.tape, hb2.output, hb2.size, hb2.block⟩); obtain ⟨e0, e1, e2, e3, e4, e5, e6, e7⟩ := T2.out)
    | (go_at_call 9; (with_reducible refine (hash17_any _ HT.out).mono ?_); rintro e w3 ⟨rfl, hb3⟩; have T3 := Lib.hid (T2.out.below ⟨hb3.os, hb3.tape, hb3.output, hb3.size, hb3.block⟩); obtain ⟨c0, c1, c2, c3, c4, c5, c6, c7⟩ := T3.out))
  have F3 : Hid (Below w.heap.size w w3) := Lib.hid (bel_trans BB.out (bel_trans hb1 (bel_trans ⟨hb2.os, hb2.tape, hb2.output, hb2.size, hb2.block⟩ ⟨hb3.os, hb3.tape, hb3.output, hb3.size, hb3.block⟩)))
  clear hb1 hb2 hb3 a0 a1 a2 a3 a4 a5 a6 a7 e0 e1 e2 e3 e4 e5 e6 e7 T1 T2 TF BB
  have q1 : decide (cls < 0) = false := decide_eq_false (by omega)
  have q2 : decide (7 < cls) = false := decide_eq_false (by omega)
  have q3 : decide (scl < -1) = false := decide_eq_false (by omega)
  have q4 : decide (14 < scl) = false := decide_eq_false (by omega)
  go_wp2_with (fail)
  go_region_held3 (fun w' => w'.cell? ⟨w.heap.size, 0, none⟩ = some (.int .u8 p) ∧ w'.cell? ⟨w.heap.size, 1, none⟩ = some (.int .u32 s) ∧ w'.cell? ⟨w.heap.size, 2, none⟩ = some (.int .u32 d) ∧ w'.cell? ⟨w.heap.size, 3, none⟩ = some (.int .u16 sp) ∧ w'.cell? ⟨w.heap.size, 4, none⟩ = some (.int .u16 dp) ∧ w'.cell? ⟨w.heap.size + 1, 0, none⟩ = some (.int .i64 cls) ∧ w'.cell? ⟨w.heap.size + 1, 1, none⟩ = some (.bool sack) ∧ w'.cell? ⟨w.heap.size + 1, 2, none⟩ = some (.int .i64 scl)) (first | exact ⟨r0, r1, r2, r3, r4, r5, r6, r7⟩ | exact ⟨e0, e1, e2, e3, e4, e5, e6, e7⟩ | go_keep) (first
    | (go_at_call 9; go_loud (with_reducible refine (H17.out _).mono ?_); rintro e w4 ⟨rfl, hb4⟩; have T4 := Lib.hid (T3.out.below ⟨hb4.os, hb4.tape, hb4.output, hb4.size, hb4.block⟩); obtain ⟨e0, e1, e2, e3, e4, e5, e6, e7⟩ := T4.out)
    | (go_at_call 10; (with_reducible refine (L.out _).mono ?_); rintro e w5 ⟨rfl, hb5⟩; have T5 := Lib.hid (T4.out.below ⟨hb5.os, hb5.tape, hb5.output, hb5.size, hb5.block⟩); obtain ⟨r0, r1, r2, r3, r4, r5, r6, r7⟩ := T5.out))
  have F5 : Hid (Below w.heap.size w w5) := Lib.hid (bel_trans F3.out (bel_trans ⟨hb4.os, hb4.tape, hb4.output, hb4.size, hb4.block⟩ ⟨hb5.os, hb5.tape, hb5.output, hb5.size, hb5.block⟩))
  have hlt := cell_lt r0
  have hne : ¬ w.heap.size = w5.heap.size := by dsimp only at hlt; omega
  have V0 := Lib.hid (TupAt.first w5 p s d (bits BinOp.xor IntKind.u16 sp 1) dp)
  have U0 := Lib.hid (TupAt.below (w1 := w5) (B := w.heap.size) ⟨r0, r1, r2, r3, r4⟩ (bel_alloc (.cells #[.int .u8 p, .int .u32 s, .int .u32 d, .int .u16 (bits BinOp.xor IntKind.u16 sp 1), .int .u16 dp] 26)))
  obtain ⟨y0, y1, y2, y3, y4⟩ := U0.out
  clear hb4 hb5 c0 c1 c2 c3 c4 c5 c6 c7 e0 e1 e2 e3 e4 e5 e6 e7 r0 r1 r2 r3 r4 r5 r6 r7 T3 T4 T5 F3
  go_wp2_with (first
    | (go_at_call 11
       go_loud (
        (with_reducible refine (checked_any _ (by first | exact HT.out | exact HT2.out | exact HT3.out) (by first | exact hk | exact u64_wrap_in _ | exact kmod _) (by first | exact nn.1 | exact (in_u32 (wf_bits _ _ _ _)).1) (by first | exact nn.2 | exact (in_u32 (wf_bits _ _ _ _)).2) (by omega) (by omega)).mono ?_)
        rintro e x1 ⟨rfl, hx1⟩
        have U1 := Lib.hid (U0.out.below hx1)
        have V1 := Lib.hid (V0.out.below hx1)
        obtain ⟨e0, e1, e2, e3, e4⟩ := U1.out
        obtain ⟨r0, r1, r2, r3, r4⟩ := V1.out))
    | (go_at_call 11
       go_loud (
        (with_reducible refine (checked_any _ (by first | exact HT.out | exact HT2.out | exact HT3.out) (by first | exact hk | exact u64_wrap_in _ | exact kmod _) (by first | exact nn.1 | exact (in_u32 (wf_bits _ _ _ _)).1) (by first | exact nn.2 | exact (in_u32 (wf_bits _ _ _ _)).2) (by omega) (by omega)).mono ?_)
        rintro e x2 ⟨rfl, hx2⟩
        have U2 := Lib.hid (U1.out.below hx2)
        have V2 := Lib.hid (V1.out.below hx2)
        obtain ⟨e0, e1, e2, e3, e4⟩ := U2.out
        obtain ⟨r0, r1, r2, r3, r4⟩ := V2.out))
    | (go_at_call 11
       go_loud (
        (with_reducible refine (checked_any _ (by first | exact HT.out | exact HT2.out | exact HT3.out) (by first | exact hk | exact u64_wrap_in _ | exact kmod _) (by first | exact nn.1 | exact (in_u32 (wf_bits _ _ _ _)).1) (by first | exact nn.2 | exact (in_u32 (wf_bits _ _ _ _)).2) (by omega) (by omega)).mono ?_)
        rintro e x3 ⟨rfl, hx3⟩
        have U3 := Lib.hid (U2.out.below hx3)
        have V3 := Lib.hid (V2.out.below hx3)
        obtain ⟨e0, e1, e2, e3, e4⟩ := U3.out
        obtain ⟨r0, r1, r2, r3, r4⟩ := V3.out))
    | (go_at_call 11
       go_loud (
        (with_reducible refine (checked_any _ (by first | exact HT.out | exact HT2.out | exact HT3.out) (by first | exact hk | exact u64_wrap_in _ | exact kmod _) (by first | exact nn.1 | exact (in_u32 (wf_bits _ _ _ _)).1) (by first | exact nn.2 | exact (in_u32 (wf_bits _ _ _ _)).2) (by omega) (by omega)).mono ?_)
        rintro e x4 ⟨rfl, hx4⟩
        have U4 := Lib.hid (U3.out.below hx4)
        have V4 := Lib.hid (V3.out.below hx4)
        obtain ⟨e0, e1, e2, e3, e4⟩ := U4.out
        obtain ⟨r0, r1, r2, r3, r4⟩ := V4.out))
    | (go_at_call 11
       go_loud (
        (with_reducible refine (checked_any _ (by first | exact HT.out | exact HT2.out | exact HT3.out) (by first | exact hk | exact u64_wrap_in _ | exact kmod _) (by first | exact nn.1 | exact (in_u32 (wf_bits _ _ _ _)).1) (by first | exact nn.2 | exact (in_u32 (wf_bits _ _ _ _)).2) (by omega) (by omega)).mono ?_)
        rintro e x5 ⟨rfl, hx5⟩
        have U5 := Lib.hid (U4.out.below hx5)
        have V5 := Lib.hid (V4.out.below hx5)
        obtain ⟨e0, e1, e2, e3, e4⟩ := U5.out
        obtain ⟨r0, r1, r2, r3, r4⟩ := V5.out))
    | (go_at_call 11
       go_loud (
        (with_reducible refine (checked_any _ (by first | exact HT.out | exact HT2.out | exact HT3.out) (by first | exact hk | exact u64_wrap_in _ | exact kmod _) (by first | exact nn.1 | exact (in_u32 (wf_bits _ _ _ _)).1) (by first | exact nn.2 | exact (in_u32 (wf_bits _ _ _ _)).2) (by omega) (by omega)).mono ?_)
        rintro e x6 ⟨rfl, hx6⟩
        have U6 := Lib.hid (U5.out.below hx6)
        have V6 := Lib.hid (V5.out.below hx6)
        obtain ⟨e0, e1, e2, e3, e4⟩ := U6.out
        obtain ⟨r0, r1, r2, r3, r4⟩ := V6.out))
    | (go_at_call 11
       go_loud (
        (with_reducible refine (checked_any _ (by first | exact HT.out | exact HT2.out | exact HT3.out) (by first | exact hk | exact u64_wrap_in _ | exact kmod _) (by first | exact nn.1 | exact (in_u32 (wf_bits _ _ _ _)).1) (by first | exact nn.2 | exact (in_u32 (wf_bits _ _ _ _)).2) (by omega) (by omega)).mono ?_)
        rintro e x7 ⟨rfl, hx7⟩
        have U7 := Lib.hid (U6.out.below hx7)
        have V7 := Lib.hid (V6.out.below hx7)
        obtain ⟨e0, e1, e2, e3, e4⟩ := U7.out
        obtain ⟨r0, r1, r2, r3, r4⟩ := V7.out)))
  go_ret
  exact ⟨rfl, bel_trans F5.out (bel_trans (bel_alloc _) (bel_trans hx1 (bel_trans hx2 (bel_trans hx3 (bel_trans hx4 (bel_trans hx5 (bel_trans hx6 hx7)))))))⟩
end
end Go.Proofs.YtnpmelonkcgpgacDoor

