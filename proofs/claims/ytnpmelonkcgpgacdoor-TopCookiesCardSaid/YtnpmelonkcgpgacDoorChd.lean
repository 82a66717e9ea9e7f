/- Cookies: checked17 answers true. -/
import Derived.Test.YtnpmelonkcgpgacDoorCheck
namespace Go.Proofs.YtnpmelonkcgpgacDoor
open Go.RowKit
set_option linter.unusedVariables false
set_option linter.unusedSimpArgs false
attribute [local go_sem ↓] Go.wp_at_zero Go.wp_at_succ

section
variable {key p s d sp dp c ep n tick : Int}

theorem good_eq (hk : 0 ≤ key ∧ key < 18446744073709551616) (n0 : 0 ≤ n) (n1 : n < 4294967296) : (hashI key p s d sp dp c ep / 1099511627776 % 4294967296 == n / 256) = goodAt key p s d sp dp c ep n := by
  have h : 0 ≤ hashI key p s d sp dp c ep ∧ hashI key p s d sp dp c ep < 18446744073709551616 := foldI_in _ _ hk
  unfold goodAt
  generalize hashI key p s d sp dp c ep = x at *
  rw [Bool.eq_iff_iff]
  simp only [beq_iff_eq]
  omega

set_option maxHeartbeats 1000000 in
theorem checked_any (w : World) (ht : TupIn p s d sp dp c) (hk : 0 ≤ key ∧ key < 18446744073709551616) (n0 : 0 ≤ n) (n1 : n < 4294967296) (k0 : 0 ≤ tick) (k1 : tick < 18446744073709551616) :
    Calls Tryd.prog 11 #[.int .u64 key, tupV p s d sp dp, .int .u32 c, .int .u64 tick, .int .u32 n] w fun e w' => e = .returned (.bool true) ∧ Below w.heap.size w w' := by
  have HT := Lib.hid ht
  have EA := good_eq (p := p) (s := s) (d := d) (sp := sp) (dp := dp) (c := c) (ep := tick / 64) hk n0 n1
  have EB := good_eq (p := p) (s := s) (d := d) (sp := sp) (dp := dp) (c := c) (ep := tick / 64 - 1) hk n0 n1
  have C := fun w is h => check_any (key := key) (p := p) (s := s) (d := d) (sp := sp) (dp := dp) (c := c) (n := n) (tick := tick) w ht n0 n1 k0 k1 is h
  have CS := fun w => said_any (n := n) w
  have TF := Lib.hid (TupAt.first w p s d sp dp)
  unfold saidV at C CS
  generalize clsI n = S0 at *
  generalize (sackI n == 1) = S1 at *
  generalize sclI n = S2 at *
  have HS := Lib.hid CS
  clear ht CS
  by_cases h64 : 64 ≤ tick
  · cases gA : goodAt key p s d sp dp c (tick / 64) n
    · cases gB : goodAt key p s d sp dp c (tick / 64 - 1) n
      · rw [gA] at EA
        rw [gB] at EB
        have hq := fun w => C w false (by simp [gA, h64, gB])
        simp only [Bool.false_eq_true, if_true, if_false] at hq
        have HQ := Lib.hid hq
        clear hq C
        clear gA gB
        go_enter Tryd.func11, Tryd.ntmps11
        go_wp2_with (first
          | (go_at_call 9; (with_reducible refine (hash17_any _ HT.out).mono ?_); rintro e w1 ⟨rfl, hb1⟩; have T1 := Lib.hid (TF.out.below hb1); obtain ⟨a0, a1, a2, a3, a4⟩ := T1.out)
          | (go_at_call 9; (with_reducible refine (hash17_any _ HT.out).mono ?_); rintro e w2 ⟨rfl, hb2⟩; have T2 := Lib.hid (T1.out.below hb2); obtain ⟨b0, b1, b2, b3, b4⟩ := T2.out)
          | (go_at_call 17; (with_reducible refine (HQ.out _).mono ?_); rintro e w3 ⟨rfl, hb3⟩))
        go_ret
        exact ⟨rfl, bel_then (bel_trans hb1 (bel_trans hb2 (bel_trans hb3 (bel_alloc _))) |>.mono (by simp))⟩
      · rw [gA] at EA
        rw [gB] at EB
        have hq := fun w => C w true (by simp [gA, h64, gB])
        simp only [Bool.false_eq_true, if_true, if_false] at hq
        have HQ := Lib.hid hq
        clear hq C
        clear gA gB
        go_enter Tryd.func11, Tryd.ntmps11
        go_wp2_with (first
          | (go_at_call 9; (with_reducible refine (hash17_any _ HT.out).mono ?_); rintro e w1 ⟨rfl, hb1⟩; have T1 := Lib.hid (TF.out.below hb1); obtain ⟨a0, a1, a2, a3, a4⟩ := T1.out)
          | (go_at_call 9; (with_reducible refine (hash17_any _ HT.out).mono ?_); rintro e w2 ⟨rfl, hb2⟩; have T2 := Lib.hid (T1.out.below hb2); obtain ⟨b0, b1, b2, b3, b4⟩ := T2.out)
          | (go_at_call 17; (with_reducible refine (HQ.out _).mono ?_); rintro e w3 ⟨rfl, hb3⟩))
        go_region_held3 (fun w' => w'.cell? ⟨w3.heap.size, 0, none⟩ = some (.int .i64 S0) ∧ w'.cell? ⟨w3.heap.size, 1, none⟩ = some (.bool S1) ∧ w'.cell? ⟨w3.heap.size, 2, none⟩ = some (.int .i64 S2)) (first | exact ⟨g0, g1, g2⟩ | (simp; done) | go_keep) (first
          | (go_at_call 18
             go_loud (
              (with_reducible refine (HS.out _).mono ?_)
              rintro e w4 ⟨rfl, hb4⟩
              have g0 : w4.cell? ⟨w3.heap.size, 0, none⟩ = some (.int .i64 S0) := (hb4.cell (by simp)).trans (by simp)
              have g1 : w4.cell? ⟨w3.heap.size, 1, none⟩ = some (.bool S1) := (hb4.cell (by simp)).trans (by simp)
              have g2 : w4.cell? ⟨w3.heap.size, 2, none⟩ = some (.int .i64 S2) := (hb4.cell (by simp)).trans (by simp))))
        go_wp2
        go_ret
        exact ⟨rfl, bel_then (bel_trans hb1 (bel_trans hb2 (bel_trans hb3 (bel_trans (bel_alloc _) ⟨hb4.os, hb4.tape, hb4.output, hb4.size, hb4.block⟩))) |>.mono (by simp))⟩
    · rw [gA] at EA
      clear EB
      have hq := fun w => C w true (by simp [gA, h64])
      simp only [Bool.false_eq_true, if_true, if_false] at hq
      have HQ := Lib.hid hq
      clear hq C
      clear gA
      go_enter Tryd.func11, Tryd.ntmps11
      go_wp2_with (first
        | (go_at_call 9; (with_reducible refine (hash17_any _ HT.out).mono ?_); rintro e w1 ⟨rfl, hb1⟩; have T1 := Lib.hid (TF.out.below hb1); obtain ⟨a0, a1, a2, a3, a4⟩ := T1.out)
        | (go_at_call 17; (with_reducible refine (HQ.out _).mono ?_); rintro e w3 ⟨rfl, hb3⟩))
      go_region_held3 (fun w' => w'.cell? ⟨w3.heap.size, 0, none⟩ = some (.int .i64 S0) ∧ w'.cell? ⟨w3.heap.size, 1, none⟩ = some (.bool S1) ∧ w'.cell? ⟨w3.heap.size, 2, none⟩ = some (.int .i64 S2)) (first | exact ⟨g0, g1, g2⟩ | (simp; done) | go_keep) (first
        | (go_at_call 18
           go_loud (
            (with_reducible refine (HS.out _).mono ?_)
            rintro e w4 ⟨rfl, hb4⟩
            have g0 : w4.cell? ⟨w3.heap.size, 0, none⟩ = some (.int .i64 S0) := (hb4.cell (by simp)).trans (by simp)
            have g1 : w4.cell? ⟨w3.heap.size, 1, none⟩ = some (.bool S1) := (hb4.cell (by simp)).trans (by simp)
            have g2 : w4.cell? ⟨w3.heap.size, 2, none⟩ = some (.int .i64 S2) := (hb4.cell (by simp)).trans (by simp))))
      go_wp2
      go_ret
      exact ⟨rfl, bel_then (bel_trans hb1 (bel_trans hb3 (bel_trans (bel_alloc _) ⟨hb4.os, hb4.tape, hb4.output, hb4.size, hb4.block⟩)) |>.mono (by simp))⟩
  · clear EB
    cases gA : goodAt key p s d sp dp c (tick / 64) n
    · rw [gA] at EA
      have hq := fun w => C w false (by simp [gA, h64])
      simp only [Bool.false_eq_true, if_true, if_false] at hq
      have HQ := Lib.hid hq
      clear hq C
      clear gA
      go_enter Tryd.func11, Tryd.ntmps11
      go_wp2_with (first
        | (go_at_call 9; (with_reducible refine (hash17_any _ HT.out).mono ?_); rintro e w1 ⟨rfl, hb1⟩; have T1 := Lib.hid (TF.out.below hb1); obtain ⟨a0, a1, a2, a3, a4⟩ := T1.out)
        | (go_at_call 17; (with_reducible refine (HQ.out _).mono ?_); rintro e w3 ⟨rfl, hb3⟩))
      go_ret
      exact ⟨rfl, bel_then (bel_trans hb1 (bel_trans hb3 (bel_alloc _)) |>.mono (by simp))⟩
    · rw [gA] at EA
      have hq := fun w => C w true (by simp [gA, h64])
      simp only [Bool.false_eq_true, if_true, if_false] at hq
      have HQ := Lib.hid hq
      clear hq C
      clear gA
      go_enter Tryd.func11, Tryd.ntmps11
      go_wp2_with (first
        | (go_at_call 9; (with_reducible refine (hash17_any _ HT.out).mono ?_); rintro e w1 ⟨rfl, hb1⟩; have T1 := Lib.hid (TF.out.below hb1); obtain ⟨a0, a1, a2, a3, a4⟩ := T1.out)
        | (go_at_call 17; (with_reducible refine (HQ.out _).mono ?_); rintro e w3 ⟨rfl, hb3⟩))
      go_region_held3 (fun w' => w'.cell? ⟨w3.heap.size, 0, none⟩ = some (.int .i64 S0) ∧ w'.cell? ⟨w3.heap.size, 1, none⟩ = some (.bool S1) ∧ w'.cell? ⟨w3.heap.size, 2, none⟩ = some (.int .i64 S2)) (first | exact ⟨g0, g1, g2⟩ | (simp; done) | go_keep) (first
        | (go_at_call 18
           go_loud (
            (with_reducible refine (HS.out _).mono ?_)
            rintro e w4 ⟨rfl, hb4⟩
            have g0 : w4.cell? ⟨w3.heap.size, 0, none⟩ = some (.int .i64 S0) := (hb4.cell (by simp)).trans (by simp)
            have g1 : w4.cell? ⟨w3.heap.size, 1, none⟩ = some (.bool S1) := (hb4.cell (by simp)).trans (by simp)
            have g2 : w4.cell? ⟨w3.heap.size, 2, none⟩ = some (.int .i64 S2) := (hb4.cell (by simp)).trans (by simp))))
      go_wp2
      go_ret
      exact ⟨rfl, bel_then (bel_trans hb1 (bel_trans hb3 (bel_trans (bel_alloc _) ⟨hb4.os, hb4.tape, hb4.output, hb4.size, hb4.block⟩)) |>.mono (by simp))⟩
end
end Go.Proofs.YtnpmelonkcgpgacDoor

