/- An argument that is a slice of structs of four numbers. -/
import Derived.Test.YtnpmelonkcgpgadRes
namespace Go.Proofs.Ytnpmelonkcgpgad
open Go.RowKit Go.ChangeShapes Go.WideShapes Go.Deep
set_option linter.unusedVariables false
set_option linter.unusedSimpArgs false

theorem row_quad {k0 k1 k2 k3 : IntKind} {w : World} {a : Option Addr} {len cap : Nat} (h : SRow [some k0, some k1, some k2, some k3] w a len cap) :
    ∃ l : List Act4, len = l.length ∧ Sl w a (quadCells k0 k1 k2 k3 l) ∧ (∀ q ∈ l, (Lit.int k0 q.1).wf = true ∧ (Lit.int k1 q.2.1).wf = true ∧ (Lit.int k2 q.2.2.1).wf = true ∧ (Lit.int k3 q.2.2.2).wf = true) ∧ len ≤ cap ∧ cap ≤ maxLen := by
  rcases h with ⟨rfl, rfl, rfl⟩ | ⟨x, rfl, hl, hm, hcell⟩
  · exact ⟨[], rfl, Sl.nil _ _, by simp, Nat.le_refl _, Nat.zero_le _⟩
  · obtain ⟨f, hf⟩ := choose_lt (α := Act4) (n := len) (p := fun i q => w.cell? (x.add (i * 4)) = some (.int k0 q.1) ∧ w.cell? (x.add (i * 4 + 1)) = some (.int k1 q.2.1) ∧ w.cell? (x.add (i * 4 + 2)) = some (.int k2 q.2.2.1) ∧ w.cell? (x.add (i * 4 + 3)) = some (.int k3 q.2.2.2) ∧
        (Lit.int k0 q.1).wf = true ∧ (Lit.int k1 q.2.1).wf = true ∧ (Lit.int k2 q.2.2.1).wf = true ∧ (Lit.int k3 q.2.2.2).wf = true) (fun i hi => by
      obtain ⟨_, e0, z0, rfl, g0⟩ := hcell i hi 0 (some k0) rfl
      obtain ⟨_, e1, z1, rfl, g1⟩ := hcell i hi 1 (some k1) rfl
      obtain ⟨_, e2, z2, rfl, g2⟩ := hcell i hi 2 (some k2) rfl
      obtain ⟨_, e3, z3, rfl, g3⟩ := hcell i hi 3 (some k3) rfl
      exact ⟨(z0, z1, z2, z3), e0, e1, e2, e3, g0, g1, g2, g3⟩)
    have hlen : ((List.range len).map f).length = len := by simp
    refine ⟨(List.range len).map f, hlen.symm, fun hpos => ?_, ?_, hl, hm⟩
    · rw [quadCells_length, hlen] at hpos
      have h0 := (hf 0 (by omega)).1
      obtain ⟨b, o, sp⟩ := x
      obtain rfl : sp = none := by
        cases sp with
        | none => rfl
        | some _ => simp [World.cell?, Addr.add] at h0; split at h0 <;> simp_all
      refine ⟨b, o, rfl, fun j v hj => ?_⟩
      have hjl : j < 4 * len := by
        have := (List.getElem?_eq_some_iff.1 hj).1
        rwa [quadCells_length, hlen] at this
      have e : ∀ j : Nat, (⟨b, o, none⟩ : Addr).add j = ⟨b, o + j, none⟩ := fun j => by unfold Addr.add; split <;> simp_all
      have hi : j / 4 < len := by omega
      obtain ⟨g0, g1, g2, g3⟩ := quadCells_get k0 k1 k2 k3 ((List.range len).map f) (j / 4) (by rw [hlen]; exact hi)
      simp only [List.getElem_map, List.getElem_range] at g0 g1 g2 g3
      obtain ⟨c0, c1, c2, c3, _⟩ := hf (j / 4) hi
      rw [e] at c0 c1 c2 c3
      have hr : j % 4 = 0 ∨ j % 4 = 1 ∨ j % 4 = 2 ∨ j % 4 = 3 := by omega
      rcases hr with hr | hr | hr | hr
      · rw [show j = j / 4 * 4 by omega] at hj ⊢
        rw [g0] at hj; rw [c0]; exact hj
      · rw [show j = j / 4 * 4 + 1 by omega] at hj ⊢
        rw [g1] at hj; rw [c1]; exact hj
      · rw [show j = j / 4 * 4 + 2 by omega] at hj ⊢
        rw [g2] at hj; rw [c2]; exact hj
      · rw [show j = j / 4 * 4 + 3 by omega] at hj ⊢
        rw [g3] at hj; rw [c3]; exact hj
    · intro q hq
      obtain ⟨i, hi, rfl⟩ := List.mem_map.1 hq
      exact (hf i (List.mem_range.1 hi)).2.2.2.2
end Go.Proofs.Ytnpmelonkcgpgad

