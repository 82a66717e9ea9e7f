/- Cookies: the class of a greatest segment. -/
import Derived.Test.YtnpmelonkcgpgacDoorBake
namespace Go.Proofs.YtnpmelonkcgpgacDoor
open Go.RowKit
set_option linter.unusedVariables false
set_option linter.unusedSimpArgs false

theorem nan_any (x : Int) (w : World) : Calls Tryd.prog 23 #[.int .u16 x] w fun e w' => e = .returned (.bool false) ∧ w = w' := by
  go_enter Tryd.func23, Tryd.ntmps23
  go_wp2
  go_ret
  exact ⟨by simp, rfl⟩
theorem nan2_any (x : Int) (w : World) : Calls Tryd.prog 22 #[.int .u16 x] w fun e w' => e = .returned (.bool false) ∧ w = w' := by
  go_enter Tryd.func22, Tryd.ntmps22
  go_wp2
  go_ret
  exact ⟨by simp, rfl⟩
theorem less_any (x y : Int) (w : World) : Calls Tryd.prog 21 #[.int .u16 x, .int .u16 y] w fun e w' => e = .returned (.bool (decide (x < y))) ∧ w = w' := by
  go_enter Tryd.func21, Tryd.ntmps21
  go_wp2_with (go_at_call 23; (with_reducible refine (nan_any _ _).mono ?_); rintro e w' ⟨rfl, rfl⟩)
  go_ret
  exact ⟨rfl, rfl⟩

theorem cls_mono : ∀ a b : Nat, a ≤ b → b < 8 → clsN a ≤ clsN b := by
  have h : ∀ b : Fin 8, ∀ a : Fin 8, a.val ≤ b.val → clsN a.val ≤ clsN b.val := by decide +kernel
  exact fun a b hab hb => h ⟨b, hb⟩ ⟨a, by omega⟩ hab
theorem cls_in : ∀ a : Nat, a < 8 → 0 ≤ clsN a ∧ clsN a ≤ 65535 := by
  have h : ∀ a : Fin 8, 0 ≤ clsN a.val ∧ clsN a.val ≤ 65535 := by decide +kernel
  exact fun a ha => h ⟨a, ha⟩

/-- How many classes lie below. -/
structure AtIs (m : Int) (at_ : Nat) : Prop where
  le : at_ ≤ 8
  lo : ∀ a, a < at_ → clsN a < m
  hi : ∀ a, at_ ≤ a → a < 8 → m ≤ clsN a

theorem search_any (m : Int) (w : World) (hg : Glob w) (m0 : 0 ≤ m) (m1 : m < 65536) :
    Calls Tryd.prog 19 #[.slice (some ⟨1, 0, none⟩) 8 8, .int .u16 m] w fun e w' => ∃ at_ : Nat, AtIs m at_ ∧ e = .returned (.tuple #[.int .i64 at_, .bool (decide (at_ < 8) && (clsN at_ == m))]) ∧ w = w' := by
  have C := Lib.hid hg.classes
  go_enter Tryd.func19, Tryd.ntmps19
  go_wp2_with (fail)
  go_loopw [7, 8] (fun s t wr => ∃ i j : Nat, i ≤ j ∧ j ≤ 8 ∧ s = .int .i64 i ∧ t = .int .i64 j ∧ (∀ a, a < i → clsN a < m) ∧ (∀ a, j ≤ a → a < 8 → m ≤ clsN a) ∧ wr = w) (fun s t _ => (intOf t).toNat - (intOf s).toNat)
  case atStart => exact ⟨0, 8, by omega, by omega, rfl, rfl, by omega, by omega, rfl⟩
  case round =>
    obtain ⟨i, j, hij, hj, rfl, rfl, hlo, hhi, rfl⟩ := hrel
    have Hlo := Lib.hid hlo
    have Hhi := Lib.hid hhi
    clear hlo hhi
    by_cases hlt : i < j
    · have hh : (i + j) / 2 < 8 := by omega
      have hc := C.out ((i + j) / 2) hh
      have hmm := Lib.hid (fun a h => cls_mono a ((i + j) / 2) h hh)
      have hmm2 := Lib.hid (fun b h h2 => cls_mono ((i + j) / 2) b h h2)
      have hv := cls_in ((i + j) / 2) hh
      have e2 : ((i : Int) + j) / 2 = (((i + j) / 2 : Nat) : Int) := by omega
      obtain ⟨g, hgd⟩ : ∃ g, g = (i + j) / 2 := ⟨_, rfl⟩
      rw [← hgd] at hc hmm hmm2 hv e2 hh
      have g1 : i ≤ g ∧ g < j := by omega
      have G1 := Lib.hid g1
      clear hgd g1
      by_cases hl : clsN g < m
      · have hl' : decide (clsN g < m) = true := decide_eq_true hl
        generalize hx : clsN g = x at *
        have Hx := Lib.hid hx
        clear hx
        go_wp2_with (go_at_call 21; (with_reducible refine (less_any _ _ _).mono ?_); rintro e w' ⟨rfl, rfl⟩)
        go_roundw
        case rel => have g1 := G1.out; exact ⟨g + 1, j, by omega, hj, by go_num, rfl, fun a ha => by have := hmm.out a (by omega); omega, Hhi.out, by first | trivial | rfl⟩
        case measure => have g1 := G1.out; simp [intOf]; omega
      · have hl' : decide (clsN g < m) = false := decide_eq_false hl
        generalize hx : clsN g = x at *
        have Hx := Lib.hid hx
        clear hx
        go_wp2_with (go_at_call 21; (with_reducible refine (less_any _ _ _).mono ?_); rintro e w' ⟨rfl, rfl⟩)
        go_roundw
        case rel => have g1 := G1.out; exact ⟨i, g, by omega, by omega, rfl, by go_num, Hlo.out, fun a ha h8 => by have := hmm2.out a ha h8; omega, by first | trivial | rfl⟩
        case measure => have g1 := G1.out; simp [intOf]; omega
    · obtain rfl : i = j := by omega
      have fin : Hid (AtIs m i) := Lib.hid ⟨hj, Hlo.out, Hhi.out⟩
      by_cases h8 : i < 8
      · have hc := C.out i h8
        cases hcm : clsN i == m
        all_goals
          go_wp2_with (go_at_call 22; (with_reducible refine (nan2_any _ _).mono ?_); rintro e w' ⟨rfl, rfl⟩)
          go_ret2
          exact ⟨i, fin.out, by simp [h8, hcm], rfl⟩
      · go_wp2_with (go_at_call 22; (with_reducible refine (nan2_any _ _).mono ?_); rintro e w' ⟨rfl, rfl⟩)
        go_ret2
        exact ⟨i, fin.out, by simp [h8], rfl⟩

/-- The class, reckoned from the first one on. -/
def clI (m : Int) : Nat → Int × Bool
  | 0 => (0, false)
  | j + 1 => if clsN j ≤ m then ((j : Int), true) else clI m j
theorem class_eq {m : Int} {at_ : Nat} (h : AtIs m at_) : (if (decide (at_ < 8) && (clsN at_ == m)) = true then ((at_ : Int), true) else (max ((at_ : Int) - 1) 0, decide (0 < (at_ : Int)))) = clI m 8 := by
  obtain ⟨hle, hlo, hhi⟩ := h
  have hl : ∀ a, a < at_ → clsN a < m := hlo
  have l0 : 0 < at_ → (88 : Int) < m := hlo 0
  have l1 : 1 < at_ → (216 : Int) < m := hlo 1
  have l2 : 2 < at_ → (536 : Int) < m := hlo 2
  have l3 : 3 < at_ → (1024 : Int) < m := hlo 3
  have l4 : 4 < at_ → (1220 : Int) < m := hlo 4
  have l5 : 5 < at_ → (1360 : Int) < m := hlo 5
  have l6 : 6 < at_ → (1440 : Int) < m := hlo 6
  have l7 : 7 < at_ → (1460 : Int) < m := hlo 7
  have g0 : at_ ≤ 0 → m ≤ 88 := fun h => hhi 0 h (by omega)
  have g1 : at_ ≤ 1 → m ≤ 216 := fun h => hhi 1 h (by omega)
  have g2 : at_ ≤ 2 → m ≤ 536 := fun h => hhi 2 h (by omega)
  have g3 : at_ ≤ 3 → m ≤ 1024 := fun h => hhi 3 h (by omega)
  have g4 : at_ ≤ 4 → m ≤ 1220 := fun h => hhi 4 h (by omega)
  have g5 : at_ ≤ 5 → m ≤ 1360 := fun h => hhi 5 h (by omega)
  have g6 : at_ ≤ 6 → m ≤ 1440 := fun h => hhi 6 h (by omega)
  have g7 : at_ ≤ 7 → m ≤ 1460 := fun h => hhi 7 h (by omega)
  have e : clI m 8 = if 1460 ≤ m then (7, true) else if 1440 ≤ m then (6, true) else if 1360 ≤ m then (5, true) else if 1220 ≤ m then (4, true) else if 1024 ≤ m then (3, true) else if 536 ≤ m then (2, true) else if 216 ≤ m then (1, true) else if 88 ≤ m then (0, true) else (0, false) := rfl
  rw [e]
  clear e hlo hhi hl
  have hc : at_ = 0 ∨ at_ = 1 ∨ at_ = 2 ∨ at_ = 3 ∨ at_ = 4 ∨ at_ = 5 ∨ at_ = 6 ∨ at_ = 7 ∨ at_ = 8 := by omega
  rcases hc with rfl | rfl | rfl | rfl | rfl | rfl | rfl | rfl | rfl
  · have b2 := g0 (by omega)
    clear l0 l1 l2 l3 l4 l5 l6 l7 g0 g1 g2 g3 g4 g5 g6 g7
    by_cases hm : (88 : Int) = m
    · have hf : (decide ((0 : Nat) < 8) && (clsN 0 == m)) = true := by rw [← hm]; decide
      rw [if_pos hf, if_neg (show ¬ (1460 : Int) ≤ m by omega), if_neg (show ¬ (1440 : Int) ≤ m by omega), if_neg (show ¬ (1360 : Int) ≤ m by omega), if_neg (show ¬ (1220 : Int) ≤ m by omega), if_neg (show ¬ (1024 : Int) ≤ m by omega), if_neg (show ¬ (536 : Int) ≤ m by omega), if_neg (show ¬ (216 : Int) ≤ m by omega), if_pos (show (88 : Int) ≤ m by omega)]
      rfl
    · have hf : ¬ (decide ((0 : Nat) < 8) && (clsN 0 == m)) = true := by
        simp only [Bool.and_eq_true, beq_iff_eq]
        exact fun h => hm h.2
      rw [if_neg hf, if_neg (show ¬ (1460 : Int) ≤ m by omega), if_neg (show ¬ (1440 : Int) ≤ m by omega), if_neg (show ¬ (1360 : Int) ≤ m by omega), if_neg (show ¬ (1220 : Int) ≤ m by omega), if_neg (show ¬ (1024 : Int) ≤ m by omega), if_neg (show ¬ (536 : Int) ≤ m by omega), if_neg (show ¬ (216 : Int) ≤ m by omega), if_neg (show ¬ (88 : Int) ≤ m by omega)]
      rfl
  · have b1 := l0 (by omega)
    have b2 := g1 (by omega)
    clear l0 l1 l2 l3 l4 l5 l6 l7 g0 g1 g2 g3 g4 g5 g6 g7
    by_cases hm : (216 : Int) = m
    · have hf : (decide ((1 : Nat) < 8) && (clsN 1 == m)) = true := by rw [← hm]; decide
      rw [if_pos hf, if_neg (show ¬ (1460 : Int) ≤ m by omega), if_neg (show ¬ (1440 : Int) ≤ m by omega), if_neg (show ¬ (1360 : Int) ≤ m by omega), if_neg (show ¬ (1220 : Int) ≤ m by omega), if_neg (show ¬ (1024 : Int) ≤ m by omega), if_neg (show ¬ (536 : Int) ≤ m by omega), if_pos (show (216 : Int) ≤ m by omega)]
      rfl
    · have hf : ¬ (decide ((1 : Nat) < 8) && (clsN 1 == m)) = true := by
        simp only [Bool.and_eq_true, beq_iff_eq]
        exact fun h => hm h.2
      rw [if_neg hf, if_neg (show ¬ (1460 : Int) ≤ m by omega), if_neg (show ¬ (1440 : Int) ≤ m by omega), if_neg (show ¬ (1360 : Int) ≤ m by omega), if_neg (show ¬ (1220 : Int) ≤ m by omega), if_neg (show ¬ (1024 : Int) ≤ m by omega), if_neg (show ¬ (536 : Int) ≤ m by omega), if_neg (show ¬ (216 : Int) ≤ m by omega), if_pos (show (88 : Int) ≤ m by omega)]
      rfl
  · have b1 := l1 (by omega)
    have b2 := g2 (by omega)
    clear l0 l1 l2 l3 l4 l5 l6 l7 g0 g1 g2 g3 g4 g5 g6 g7
    by_cases hm : (536 : Int) = m
    · have hf : (decide ((2 : Nat) < 8) && (clsN 2 == m)) = true := by rw [← hm]; decide
      rw [if_pos hf, if_neg (show ¬ (1460 : Int) ≤ m by omega), if_neg (show ¬ (1440 : Int) ≤ m by omega), if_neg (show ¬ (1360 : Int) ≤ m by omega), if_neg (show ¬ (1220 : Int) ≤ m by omega), if_neg (show ¬ (1024 : Int) ≤ m by omega), if_pos (show (536 : Int) ≤ m by omega)]
      rfl
    · have hf : ¬ (decide ((2 : Nat) < 8) && (clsN 2 == m)) = true := by
        simp only [Bool.and_eq_true, beq_iff_eq]
        exact fun h => hm h.2
      rw [if_neg hf, if_neg (show ¬ (1460 : Int) ≤ m by omega), if_neg (show ¬ (1440 : Int) ≤ m by omega), if_neg (show ¬ (1360 : Int) ≤ m by omega), if_neg (show ¬ (1220 : Int) ≤ m by omega), if_neg (show ¬ (1024 : Int) ≤ m by omega), if_neg (show ¬ (536 : Int) ≤ m by omega), if_pos (show (216 : Int) ≤ m by omega)]
      rfl
  · have b1 := l2 (by omega)
    have b2 := g3 (by omega)
    clear l0 l1 l2 l3 l4 l5 l6 l7 g0 g1 g2 g3 g4 g5 g6 g7
    by_cases hm : (1024 : Int) = m
    · have hf : (decide ((3 : Nat) < 8) && (clsN 3 == m)) = true := by rw [← hm]; decide
      rw [if_pos hf, if_neg (show ¬ (1460 : Int) ≤ m by omega), if_neg (show ¬ (1440 : Int) ≤ m by omega), if_neg (show ¬ (1360 : Int) ≤ m by omega), if_neg (show ¬ (1220 : Int) ≤ m by omega), if_pos (show (1024 : Int) ≤ m by omega)]
      rfl
    · have hf : ¬ (decide ((3 : Nat) < 8) && (clsN 3 == m)) = true := by
        simp only [Bool.and_eq_true, beq_iff_eq]
        exact fun h => hm h.2
      rw [if_neg hf, if_neg (show ¬ (1460 : Int) ≤ m by omega), if_neg (show ¬ (1440 : Int) ≤ m by omega), if_neg (show ¬ (1360 : Int) ≤ m by omega), if_neg (show ¬ (1220 : Int) ≤ m by omega), if_neg (show ¬ (1024 : Int) ≤ m by omega), if_pos (show (536 : Int) ≤ m by omega)]
      rfl
  · have b1 := l3 (by omega)
    have b2 := g4 (by omega)
    clear l0 l1 l2 l3 l4 l5 l6 l7 g0 g1 g2 g3 g4 g5 g6 g7
    by_cases hm : (1220 : Int) = m
    · have hf : (decide ((4 : Nat) < 8) && (clsN 4 == m)) = true := by rw [← hm]; decide
      rw [if_pos hf, if_neg (show ¬ (1460 : Int) ≤ m by omega), if_neg (show ¬ (1440 : Int) ≤ m by omega), if_neg (show ¬ (1360 : Int) ≤ m by omega), if_pos (show (1220 : Int) ≤ m by omega)]
      rfl
    · have hf : ¬ (decide ((4 : Nat) < 8) && (clsN 4 == m)) = true := by
        simp only [Bool.and_eq_true, beq_iff_eq]
        exact fun h => hm h.2
      rw [if_neg hf, if_neg (show ¬ (1460 : Int) ≤ m by omega), if_neg (show ¬ (1440 : Int) ≤ m by omega), if_neg (show ¬ (1360 : Int) ≤ m by omega), if_neg (show ¬ (1220 : Int) ≤ m by omega), if_pos (show (1024 : Int) ≤ m by omega)]
      rfl
  · have b1 := l4 (by omega)
    have b2 := g5 (by omega)
    clear l0 l1 l2 l3 l4 l5 l6 l7 g0 g1 g2 g3 g4 g5 g6 g7
    by_cases hm : (1360 : Int) = m
    · have hf : (decide ((5 : Nat) < 8) && (clsN 5 == m)) = true := by rw [← hm]; decide
      rw [if_pos hf, if_neg (show ¬ (1460 : Int) ≤ m by omega), if_neg (show ¬ (1440 : Int) ≤ m by omega), if_pos (show (1360 : Int) ≤ m by omega)]
      rfl
    · have hf : ¬ (decide ((5 : Nat) < 8) && (clsN 5 == m)) = true := by
        simp only [Bool.and_eq_true, beq_iff_eq]
        exact fun h => hm h.2
      rw [if_neg hf, if_neg (show ¬ (1460 : Int) ≤ m by omega), if_neg (show ¬ (1440 : Int) ≤ m by omega), if_neg (show ¬ (1360 : Int) ≤ m by omega), if_pos (show (1220 : Int) ≤ m by omega)]
      rfl
  · have b1 := l5 (by omega)
    have b2 := g6 (by omega)
    clear l0 l1 l2 l3 l4 l5 l6 l7 g0 g1 g2 g3 g4 g5 g6 g7
    by_cases hm : (1440 : Int) = m
    · have hf : (decide ((6 : Nat) < 8) && (clsN 6 == m)) = true := by rw [← hm]; decide
      rw [if_pos hf, if_neg (show ¬ (1460 : Int) ≤ m by omega), if_pos (show (1440 : Int) ≤ m by omega)]
      rfl
    · have hf : ¬ (decide ((6 : Nat) < 8) && (clsN 6 == m)) = true := by
        simp only [Bool.and_eq_true, beq_iff_eq]
        exact fun h => hm h.2
      rw [if_neg hf, if_neg (show ¬ (1460 : Int) ≤ m by omega), if_neg (show ¬ (1440 : Int) ≤ m by omega), if_pos (show (1360 : Int) ≤ m by omega)]
      rfl
  · have b1 := l6 (by omega)
    have b2 := g7 (by omega)
    clear l0 l1 l2 l3 l4 l5 l6 l7 g0 g1 g2 g3 g4 g5 g6 g7
    by_cases hm : (1460 : Int) = m
    · have hf : (decide ((7 : Nat) < 8) && (clsN 7 == m)) = true := by rw [← hm]; decide
      rw [if_pos hf, if_pos (show (1460 : Int) ≤ m by omega)]
      rfl
    · have hf : ¬ (decide ((7 : Nat) < 8) && (clsN 7 == m)) = true := by
        simp only [Bool.and_eq_true, beq_iff_eq]
        exact fun h => hm h.2
      rw [if_neg hf, if_neg (show ¬ (1460 : Int) ≤ m by omega), if_pos (show (1440 : Int) ≤ m by omega)]
      rfl
  · have b1 := l7 (by omega)
    clear l0 l1 l2 l3 l4 l5 l6 l7 g0 g1 g2 g3 g4 g5 g6 g7
    · have hf : ¬ (decide ((8 : Nat) < 8) && (clsN 8 == m)) = true := by simp
      rw [if_neg hf, if_pos (show (1460 : Int) ≤ m by omega)]
      rfl

theorem search_cls (m : Int) (w : World) (hg : Glob w) (m0 : 0 ≤ m) (m1 : m < 65536) :
    Calls Tryd.prog 19 #[.slice (some ⟨1, 0, none⟩) 8 8, .int .u16 m] w fun e w' => ∃ (k : Nat) (f : Bool), (if f = true then ((k : Int), true) else (max ((k : Int) - 1) 0, decide (0 < (k : Int)))) = clI m 8 ∧ k ≤ 8 ∧ e = .returned (.tuple #[.int .i64 k, .bool f]) ∧ w = w' :=
  (search_any m w hg m0 m1).mono fun e w' ⟨k, hk, he, hw⟩ => ⟨k, _, class_eq hk, hk.le, he, hw⟩

section
variable {m : Int} {w : World}
theorem class_any (hg : Glob w) (m0 : 0 ≤ m) (m1 : m < 65536) : Calls Tryd.prog 12 #[.int .u16 m] w fun e w' => e = .returned (.tuple #[.int .i64 (clI m 8).1, .bool (clI m 8).2]) ∧ w = w' := by
  have S := Lib.hid (search_cls m w hg m0 m1)
  generalize clI m 8 = R at *
  go_enter Tryd.func12, Tryd.ntmps12
  go_wp2_with (go_at_call 19
               go_loud (
                (with_reducible refine S.out.mono ?_)
                rintro e w' ⟨k, f, hR, hk, rfl, rfl⟩
                have HR := Lib.hid hR
                clear hR))
  · go_ret2
    have h0 : f = true := by assumption
    have hR := HR.out
    rw [h0] at hR
    simp only [if_true] at hR
    subst hR
    exact ⟨rfl, rfl⟩
  · go_ret2
    have h0 : f = false := by assumption
    have hR := HR.out
    rw [h0] at hR
    simp only [Bool.false_eq_true, if_false] at hR
    subst hR
    exact ⟨by simp, rfl⟩

theorem clI_bounds (m : Int) : ∀ k, 0 ≤ (clI m k).1 ∧ (clI m k).1 ≤ k
  | 0 => by simp [clI]
  | k + 1 => by have := clI_bounds m k; simp only [clI]; split <;> (try dsimp only) <;> omega

set_option maxHeartbeats 1000000 in
theorem classed_any (cls : Int) (hg : Glob w) (m0 : 0 ≤ m) (m1 : m < 65536) : Calls Tryd.prog 5 #[.int .u16 m, .int .i64 cls] w fun e w' => e = .returned (.bool true) ∧ w = w' := by
  have z0 : w.cell? ⟨0, 0, none⟩ = some (.int .u16 88) := hg.sizes 0 (by omega)
  have z1 : w.cell? ⟨0, 1, none⟩ = some (.int .u16 216) := hg.sizes 1 (by omega)
  have z2 : w.cell? ⟨0, 2, none⟩ = some (.int .u16 536) := hg.sizes 2 (by omega)
  have z3 : w.cell? ⟨0, 3, none⟩ = some (.int .u16 1024) := hg.sizes 3 (by omega)
  have z4 : w.cell? ⟨0, 4, none⟩ = some (.int .u16 1220) := hg.sizes 4 (by omega)
  have z5 : w.cell? ⟨0, 5, none⟩ = some (.int .u16 1360) := hg.sizes 5 (by omega)
  have z6 : w.cell? ⟨0, 6, none⟩ = some (.int .u16 1440) := hg.sizes 6 (by omega)
  have z7 : w.cell? ⟨0, 7, none⟩ = some (.int .u16 1460) := hg.sizes 7 (by omega)
  have i0 : ∀ w, (Instr.index 41 (.agg #[.int .u16 88, .int .u16 216, .int .u16 536, .int .u16 1024, .int .u16 1220, .int .u16 1360, .int .u16 1440, .int .u16 1460]) (.int .i64 0)).run Tryd.prog w = .ok (.int .u16 88) w := fun _ => by kernel_rfl
  have i1 : ∀ w, (Instr.index 41 (.agg #[.int .u16 88, .int .u16 216, .int .u16 536, .int .u16 1024, .int .u16 1220, .int .u16 1360, .int .u16 1440, .int .u16 1460]) (.int .i64 1)).run Tryd.prog w = .ok (.int .u16 216) w := fun _ => by kernel_rfl
  have i2 : ∀ w, (Instr.index 41 (.agg #[.int .u16 88, .int .u16 216, .int .u16 536, .int .u16 1024, .int .u16 1220, .int .u16 1360, .int .u16 1440, .int .u16 1460]) (.int .i64 2)).run Tryd.prog w = .ok (.int .u16 536) w := fun _ => by kernel_rfl
  have i3 : ∀ w, (Instr.index 41 (.agg #[.int .u16 88, .int .u16 216, .int .u16 536, .int .u16 1024, .int .u16 1220, .int .u16 1360, .int .u16 1440, .int .u16 1460]) (.int .i64 3)).run Tryd.prog w = .ok (.int .u16 1024) w := fun _ => by kernel_rfl
  have i4 : ∀ w, (Instr.index 41 (.agg #[.int .u16 88, .int .u16 216, .int .u16 536, .int .u16 1024, .int .u16 1220, .int .u16 1360, .int .u16 1440, .int .u16 1460]) (.int .i64 4)).run Tryd.prog w = .ok (.int .u16 1220) w := fun _ => by kernel_rfl
  have i5 : ∀ w, (Instr.index 41 (.agg #[.int .u16 88, .int .u16 216, .int .u16 536, .int .u16 1024, .int .u16 1220, .int .u16 1360, .int .u16 1440, .int .u16 1460]) (.int .i64 5)).run Tryd.prog w = .ok (.int .u16 1360) w := fun _ => by kernel_rfl
  have i6 : ∀ w, (Instr.index 41 (.agg #[.int .u16 88, .int .u16 216, .int .u16 536, .int .u16 1024, .int .u16 1220, .int .u16 1360, .int .u16 1440, .int .u16 1460]) (.int .i64 6)).run Tryd.prog w = .ok (.int .u16 1440) w := fun _ => by kernel_rfl
  have i7 : ∀ w, (Instr.index 41 (.agg #[.int .u16 88, .int .u16 216, .int .u16 536, .int .u16 1024, .int .u16 1220, .int .u16 1360, .int .u16 1440, .int .u16 1460]) (.int .i64 7)).run Tryd.prog w = .ok (.int .u16 1460) w := fun _ => by kernel_rfl
  have C := Lib.hid (class_any hg m0 m1)
  have hG := Lib.hid hg
  go_enter Tryd.func5, Tryd.ntmps5
  go_wp2_with (fail)
  go_loopw [5, 6, 14] (fun a b t wr => ∃ k : Nat, k ≤ 8 ∧ a = .int .i64 (clI m k).1 ∧ b = .bool (clI m k).2 ∧ t = .int .i64 k ∧ wr = w) (fun _ _ t _ => 8 - (intOf t).toNat)
  case atStart => exact ⟨0, by omega, rfl, rfl, rfl, rfl⟩
  case round =>
    obtain ⟨k, hk, rfl, rfl, rfl, rfl⟩ := hrel
    by_cases h8 : k = 8
    · subst h8
      clear i0 i1 i2 i3 i4 i5 i6 i7
      generalize hR : clI m 8 = R at *
      by_cases hc : cls < 0 ∨ 7 < cls
      · have SB := Lib.hid (size_bad cls wr hc)
        rcases Decidable.em (cls < 0) with c1 | c1
        · go_wp2_with (first
            | (go_at_call 12; (with_reducible refine C.out.mono ?_); rintro e w' ⟨rfl, rfl⟩)
            | (go_at_call 13; (with_reducible refine SB.out.mono ?_); rintro e w' ⟨rfl, rfl⟩))
          go_ret
          exact ⟨rfl, rfl⟩
        · have c2 : 7 < cls := by omega
          go_wp2_with (first
            | (go_at_call 12; (with_reducible refine C.out.mono ?_); rintro e w' ⟨rfl, rfl⟩)
            | (go_at_call 13; (with_reducible refine SB.out.mono ?_); rintro e w' ⟨rfl, rfl⟩))
          go_ret
          exact ⟨rfl, rfl⟩
      · obtain ⟨j, rfl⟩ : ∃ j : Nat, cls = j := ⟨cls.toNat, by omega⟩
        have hj : j < 8 := by omega
        have SO := Lib.hid (size_ok j wr hj hG.out)
        have zj := hG.out.sizes j hj
        clear hc
        go_wp2_with (first
          | (go_at_call 12; (with_reducible refine C.out.mono ?_); rintro e w' ⟨rfl, rfl⟩)
          | (go_at_call 13; (with_reducible refine SO.out.mono ?_); rintro e w' ⟨rfl, rfl⟩))
        go_ret
        exact ⟨rfl, rfl⟩
    · have hks : k = 0 ∨ k = 1 ∨ k = 2 ∨ k = 3 ∨ k = 4 ∨ k = 5 ∨ k = 6 ∨ k = 7 := by omega
      rcases hks with rfl | rfl | rfl | rfl | rfl | rfl | rfl | rfl
      · have hs := Lib.hid (show clI m 1 = if (88 : Int) ≤ m then (((0 : Nat) : Int), true) else clI m 0 from rfl)
        generalize clI m 0 = R at *
        by_cases hm : (88 : Int) ≤ m
        · go_wp2
          go_roundw
          case rel => exact ⟨1, by omega, by have := hs.out; rw [if_pos hm] at this; rw [this], by have := hs.out; rw [if_pos hm] at this; rw [this], by rfl, by first | trivial | rfl⟩
          case measure => simp [intOf]
        · go_wp2
          go_roundw
          case rel => exact ⟨1, by omega, by have := hs.out; rw [if_neg hm] at this; rw [this], by have := hs.out; rw [if_neg hm] at this; rw [this], by rfl, by first | trivial | rfl⟩
          case measure => simp [intOf]
      · have hs := Lib.hid (show clI m 2 = if (216 : Int) ≤ m then (((1 : Nat) : Int), true) else clI m 1 from rfl)
        generalize clI m 1 = R at *
        by_cases hm : (216 : Int) ≤ m
        · go_wp2
          go_roundw
          case rel => exact ⟨2, by omega, by have := hs.out; rw [if_pos hm] at this; rw [this], by have := hs.out; rw [if_pos hm] at this; rw [this], by rfl, by first | trivial | rfl⟩
          case measure => simp [intOf]
        · go_wp2
          go_roundw
          case rel => exact ⟨2, by omega, by have := hs.out; rw [if_neg hm] at this; rw [this], by have := hs.out; rw [if_neg hm] at this; rw [this], by rfl, by first | trivial | rfl⟩
          case measure => simp [intOf]
      · have hs := Lib.hid (show clI m 3 = if (536 : Int) ≤ m then (((2 : Nat) : Int), true) else clI m 2 from rfl)
        generalize clI m 2 = R at *
        by_cases hm : (536 : Int) ≤ m
        · go_wp2
          go_roundw
          case rel => exact ⟨3, by omega, by have := hs.out; rw [if_pos hm] at this; rw [this], by have := hs.out; rw [if_pos hm] at this; rw [this], by rfl, by first | trivial | rfl⟩
          case measure => simp [intOf]
        · go_wp2
          go_roundw
          case rel => exact ⟨3, by omega, by have := hs.out; rw [if_neg hm] at this; rw [this], by have := hs.out; rw [if_neg hm] at this; rw [this], by rfl, by first | trivial | rfl⟩
          case measure => simp [intOf]
      · have hs := Lib.hid (show clI m 4 = if (1024 : Int) ≤ m then (((3 : Nat) : Int), true) else clI m 3 from rfl)
        generalize clI m 3 = R at *
        by_cases hm : (1024 : Int) ≤ m
        · go_wp2
          go_roundw
          case rel => exact ⟨4, by omega, by have := hs.out; rw [if_pos hm] at this; rw [this], by have := hs.out; rw [if_pos hm] at this; rw [this], by rfl, by first | trivial | rfl⟩
          case measure => simp [intOf]
        · go_wp2
          go_roundw
          case rel => exact ⟨4, by omega, by have := hs.out; rw [if_neg hm] at this; rw [this], by have := hs.out; rw [if_neg hm] at this; rw [this], by rfl, by first | trivial | rfl⟩
          case measure => simp [intOf]
      · have hs := Lib.hid (show clI m 5 = if (1220 : Int) ≤ m then (((4 : Nat) : Int), true) else clI m 4 from rfl)
        generalize clI m 4 = R at *
        by_cases hm : (1220 : Int) ≤ m
        · go_wp2
          go_roundw
          case rel => exact ⟨5, by omega, by have := hs.out; rw [if_pos hm] at this; rw [this], by have := hs.out; rw [if_pos hm] at this; rw [this], by rfl, by first | trivial | rfl⟩
          case measure => simp [intOf]
        · go_wp2
          go_roundw
          case rel => exact ⟨5, by omega, by have := hs.out; rw [if_neg hm] at this; rw [this], by have := hs.out; rw [if_neg hm] at this; rw [this], by rfl, by first | trivial | rfl⟩
          case measure => simp [intOf]
      · have hs := Lib.hid (show clI m 6 = if (1360 : Int) ≤ m then (((5 : Nat) : Int), true) else clI m 5 from rfl)
        generalize clI m 5 = R at *
        by_cases hm : (1360 : Int) ≤ m
        · go_wp2
          go_roundw
          case rel => exact ⟨6, by omega, by have := hs.out; rw [if_pos hm] at this; rw [this], by have := hs.out; rw [if_pos hm] at this; rw [this], by rfl, by first | trivial | rfl⟩
          case measure => simp [intOf]
        · go_wp2
          go_roundw
          case rel => exact ⟨6, by omega, by have := hs.out; rw [if_neg hm] at this; rw [this], by have := hs.out; rw [if_neg hm] at this; rw [this], by rfl, by first | trivial | rfl⟩
          case measure => simp [intOf]
      · have hs := Lib.hid (show clI m 7 = if (1440 : Int) ≤ m then (((6 : Nat) : Int), true) else clI m 6 from rfl)
        generalize clI m 6 = R at *
        by_cases hm : (1440 : Int) ≤ m
        · go_wp2
          go_roundw
          case rel => exact ⟨7, by omega, by have := hs.out; rw [if_pos hm] at this; rw [this], by have := hs.out; rw [if_pos hm] at this; rw [this], by rfl, by first | trivial | rfl⟩
          case measure => simp [intOf]
        · go_wp2
          go_roundw
          case rel => exact ⟨7, by omega, by have := hs.out; rw [if_neg hm] at this; rw [this], by have := hs.out; rw [if_neg hm] at this; rw [this], by rfl, by first | trivial | rfl⟩
          case measure => simp [intOf]
      · have hs := Lib.hid (show clI m 8 = if (1460 : Int) ≤ m then (((7 : Nat) : Int), true) else clI m 7 from rfl)
        generalize clI m 7 = R at *
        by_cases hm : (1460 : Int) ≤ m
        · go_wp2
          go_roundw
          case rel => exact ⟨8, by omega, by have := hs.out; rw [if_pos hm] at this; rw [this], by have := hs.out; rw [if_pos hm] at this; rw [this], by rfl, by first | trivial | rfl⟩
          case measure => simp [intOf]
        · go_wp2
          go_roundw
          case rel => exact ⟨8, by omega, by have := hs.out; rw [if_neg hm] at this; rw [this], by have := hs.out; rw [if_neg hm] at this; rw [this], by rfl, by first | trivial | rfl⟩
          case measure => simp [intOf]
end
end Go.Proofs.YtnpmelonkcgpgacDoor

