/- Cookies: the document's examples. -/
import Derived.Test.YtnpmelonkcgpgacDoorCls
namespace Go.Proofs.YtnpmelonkcgpgacDoor
open Go.RowKit
set_option linter.unusedVariables false
set_option linter.unusedSimpArgs false

section
variable {key p s d sp dp c ep n tick cls scl later bit : Int} {sack : Bool}
theorem baked_any (w : World) (hg : Glob w) (ht : TupIn p s d sp dp c) (hk : 0 ≤ key ∧ key < 18446744073709551616) (k0 : 0 ≤ tick) (k1 : tick < 4611686018427387904) (l0 : 0 ≤ later) (l1 : later < 65536) (b0 : 0 ≤ bit) (b1 : bit < 256) :
    Calls Tryd.prog 4 #[.int .u64 key, tupV p s d sp dp, .int .u32 c, .int .u64 tick, infoV cls sack scl, .int .u64 later, .int .u8 bit] w fun e w' => e = .returned (.bool true) ∧ Below w.heap.size w w' := by
  by_cases h : cls < 0 ∨ 7 < cls ∨ scl < -1 ∨ 14 < scl
  · exact baked_bad w h hg ht hk k0 k1
  · exact baked_ok w (by omega) (by omega) (by omega) (by omega) hg ht hk k0 k1 l0 l1 b0 b1
end

abbrev kwW (w : World) : World := ((w.alloc (.cells #[.int .u8 6, .int .u32 1, .int .u32 2, .int .u16 3, .int .u16 4] 26)).alloc (.cells #[.int .i64 7, .bool true, .int .i64 7] 29)).alloc (.cells #[.int .i64 2, .bool false, .int .i64 (-1)] 29)
structure Kw (w' : World) (B : Nat) : Prop where
  glob : Glob w'
  c0 : w'.cell? ⟨B, 0, none⟩ = some (.int .u8 6)
  c1 : w'.cell? ⟨B, 1, none⟩ = some (.int .u32 1)
  c2 : w'.cell? ⟨B, 2, none⟩ = some (.int .u32 2)
  c3 : w'.cell? ⟨B, 3, none⟩ = some (.int .u16 3)
  c4 : w'.cell? ⟨B, 4, none⟩ = some (.int .u16 4)
  x0 : w'.cell? ⟨B + 1, 0, none⟩ = some (.int .i64 7)
  x1 : w'.cell? ⟨B + 1, 1, none⟩ = some (.bool true)
  x2 : w'.cell? ⟨B + 1, 2, none⟩ = some (.int .i64 7)
  y0 : w'.cell? ⟨B + 1 + 1, 0, none⟩ = some (.int .i64 2)
  y1 : w'.cell? ⟨B + 1 + 1, 1, none⟩ = some (.bool false)
  y2 : w'.cell? ⟨B + 1 + 1, 2, none⟩ = some (.int .i64 (-1))
theorem Kw.below {w1 w2 : World} {B : Nat} (h : Kw w1 B) (hb : Below w1.heap.size w1 w2) : Kw w2 B :=
  ⟨h.glob.below hb, (hb.cell (cell_lt h.c0)).trans h.c0, (hb.cell (cell_lt h.c1)).trans h.c1, (hb.cell (cell_lt h.c2)).trans h.c2, (hb.cell (cell_lt h.c3)).trans h.c3, (hb.cell (cell_lt h.c4)).trans h.c4,
    (hb.cell (cell_lt h.x0)).trans h.x0, (hb.cell (cell_lt h.x1)).trans h.x1, (hb.cell (cell_lt h.x2)).trans h.x2, (hb.cell (cell_lt h.y0)).trans h.y0, (hb.cell (cell_lt h.y1)).trans h.y1, (hb.cell (cell_lt h.y2)).trans h.y2⟩
theorem kw_below (w : World) : Below w.heap.size w (kwW w) := bel_trans (bel_trans (bel_alloc _) (bel_alloc _)) (bel_alloc _)
theorem Kw.first (w : World) (hg : Glob w) : Kw (kwW w) w.heap.size := by
  have t := ((TupAt.first w 6 1 2 3 4).below (bel_alloc (.cells #[.int .i64 7, .bool true, .int .i64 7] 29))).below (bel_alloc (.cells #[.int .i64 2, .bool false, .int .i64 (-1)] 29))
  have x := fun i => cell_new (w.alloc (.cells #[.int .u8 6, .int .u32 1, .int .u32 2, .int .u16 3, .int .u16 4] 26)) #[.int .i64 7, .bool true, .int .i64 7] 29 (w.heap.size + 1) i (by simp)
  have y := fun i => cell_new ((w.alloc (.cells #[.int .u8 6, .int .u32 1, .int .u32 2, .int .u16 3, .int .u16 4] 26)).alloc (.cells #[.int .i64 7, .bool true, .int .i64 7] 29)) #[.int .i64 2, .bool false, .int .i64 (-1)] 29 (w.heap.size + 1 + 1) i (by simp)
  exact ⟨hg.below (kw_below w), t.c0, t.c1, t.c2, t.c3, t.c4, cell_alloc _ (x 0), cell_alloc _ (x 1), cell_alloc _ (x 2), y 0, y 1, y 2⟩

theorem cl_1460 : clI 1460 8 = (7, true) := by decide +kernel
theorem cl_1459 : clI 1459 8 = (6, true) := by decide +kernel
theorem cl_536 : clI 536 8 = (2, true) := by decide +kernel
theorem cl_87 : clI 87 8 = (0, false) := by decide +kernel
theorem kclass {m i : Int} {b : Bool} (h : clI m 8 = (i, b)) (w : World) (hg : Glob w) (m0 : 0 ≤ m) (m1 : m < 65536) : Calls Tryd.prog 12 #[.int .u16 m] w fun e w' => e = .returned (.tuple #[.int .i64 i, .bool b]) ∧ w = w' := by
  have := class_any hg m0 m1
  rw [h] at this
  exact this
theorem kt : TupIn 6 1 2 3 4 6 := by constructor <;> decide
theorem kn1 : bits BinOp.and IntKind.u32 (madeI 5 6 1 2 3 4 6 130 7 true 7) 255 = 247 := by decide +kernel
theorem kn2 : bits BinOp.and IntKind.u32 (madeI 5 6 1 2 3 4 6 130 2 false (-1)) 255 = 79 := by decide +kernel

set_option maxRecDepth 100000 in
set_option maxHeartbeats 1000000 in
theorem knows_any (w : World) (hg : Glob w) : Calls Tryd.prog 6 #[] w fun e w' => e = .returned (.bool true) ∧ Below w.heap.size w w' := by
  have K1 := Lib.hid (kclass cl_1460 w hg (by omega) (by omega))
  have K2 := Lib.hid (kclass cl_1459 w hg (by omega) (by omega))
  have K3 := Lib.hid (kclass cl_536 w hg (by omega) (by omega))
  have K4 := Lib.hid (kclass cl_87 w hg (by omega) (by omega))
  have W0 := Lib.hid (Kw.first w hg)
  have M1 := fun w hg => make_ok (key := 5) (tick := 130) (cls := 7) (scl := 7) (sack := true) w (by omega) (by omega) (by omega) (by omega) hg kt (by omega) (by omega) (by omega)
  have M2 := fun w hg => make_ok (key := 5) (tick := 130) (cls := 2) (scl := -1) (sack := false) w (by omega) (by omega) (by omega) (by omega) hg kt (by omega) (by omega) (by omega)
  have n1 := kn1
  have n2 := kn2
  generalize madeI 5 6 1 2 3 4 6 130 7 true 7 = N1 at *
  generalize madeI 5 6 1 2 3 4 6 130 2 false (-1) = N2 at *
  have HM1 := Lib.hid M1
  have HM2 := Lib.hid M2
  have B1 := Lib.hid (fun w hg => baked_any (key := 5) (tick := 130) (cls := 7) (scl := 7) (sack := true) (later := 64) (bit := 3) w hg kt (by omega) (by omega) (by omega) (by omega) (by omega) (by omega) (by omega))
  have B2 := Lib.hid (fun w hg => baked_any (key := 5) (tick := 63) (cls := 2) (scl := -1) (sack := false) (later := 65) (bit := 30) w hg kt (by omega) (by omega) (by omega) (by omega) (by omega) (by omega) (by omega))
  have B3 := Lib.hid (fun w hg => baked_any (key := 5) (tick := 130) (cls := 8) (scl := 0) (sack := false) (later := 0) (bit := 0) w hg kt (by omega) (by omega) (by omega) (by omega) (by omega) (by omega) (by omega))
  clear M1 M2 hg
  go_enter Tryd.func6, Tryd.ntmps6
  go_wp2_with (first
    | (go_at_call 12; (with_reducible refine K1.out.mono ?_); rintro e w' ⟨rfl, rfl⟩)
    | (go_at_call 12; (with_reducible refine K2.out.mono ?_); rintro e w' ⟨rfl, rfl⟩)
    | (go_at_call 12; (with_reducible refine K3.out.mono ?_); rintro e w' ⟨rfl, rfl⟩)
    | (go_at_call 12; (with_reducible refine K4.out.mono ?_); rintro e w' ⟨rfl, rfl⟩)
    | (go_at_call 7; (with_reducible refine (HM1.out _ W0.out.glob).mono ?_); rintro e w1 ⟨rfl, hb1⟩; have W1 := Lib.hid (W0.out.below hb1); obtain ⟨-, c0, c1, c2, c3, c4, x0, x1, x2, y0, y1, y2⟩ := W1.out)
    | (go_at_call 7; (with_reducible refine (HM2.out _ W1.out.glob).mono ?_); rintro e w2 ⟨rfl, hb2⟩; have W2 := Lib.hid (W1.out.below hb2); obtain ⟨-, c0, c1, c2, c3, c4, x0, x1, x2, y0, y1, y2⟩ := W2.out)
    | (go_at_call 4; (with_reducible refine (B1.out _ W2.out.glob).mono ?_); rintro e w3 ⟨rfl, hb3⟩; have W3 := Lib.hid (W2.out.below hb3); obtain ⟨-, c0, c1, c2, c3, c4, x0, x1, x2, y0, y1, y2⟩ := W3.out)
    | (go_at_call 4; (with_reducible refine (B2.out _ W3.out.glob).mono ?_); rintro e w4 ⟨rfl, hb4⟩; have W4 := Lib.hid (W3.out.below hb4); obtain ⟨-, c0, c1, c2, c3, c4, x0, x1, x2, y0, y1, y2⟩ := W4.out)
    | (go_at_call 4; (with_reducible refine (B3.out _ W4.out.glob).mono ?_); rintro e w5 ⟨rfl, hb5⟩; have W5 := Lib.hid (W4.out.below hb5))
    | (go_at_call 5; (with_reducible refine (classed_any _ W5.out.glob (by omega) (by omega)).mono ?_); rintro e w' ⟨rfl, rfl⟩))
  go_ret
  exact ⟨rfl, bel_trans (kw_below w) (bel_trans hb1 (bel_trans hb2 (bel_trans hb3 (bel_trans hb4 hb5))))⟩
end Go.Proofs.YtnpmelonkcgpgacDoor

