/- An argument that is a slice of structs of numbers and truth values: what the walk is told of it. No program in sight. -/
import Derived.Test.YtnpmelonkcgpgadBase
import Derived.Deep.Slices
import Derived.Deep.Fields
import Derived.ChangeSame
namespace Go.Proofs.Ytnpmelonkcgpgad
open Go.RowKit Go.ChangeShapes Go.WideShapes Go.Deep
set_option linter.unusedVariables false
set_option linter.unusedSimpArgs false

/-- What a field's cell holds: a number of a kind, or a truth value. -/
def CellFits : Option IntKind → Value → Prop
  | some k, v => ∃ z, v = .int k z ∧ (Lit.int k z).wf = true
  | none, v => ∃ b, v = .bool b

/-- What the walk is told of a slice of structs that came in: it is nil; or each element's fields stand one behind another. -/
def SRow (ks : List (Option IntKind)) (w : World) (a : Option Addr) (len cap : Nat) : Prop :=
  (a = none ∧ len = 0 ∧ cap = 0) ∨
  ∃ x, a = some x ∧ len ≤ cap ∧ cap ≤ maxLen ∧ ∀ i, i < len → ∀ (j : Nat) (k : Option IntKind), ks[j]? = some k → ∃ v, w.cell? (x.add (i * ks.length + j)) = some v ∧ CellFits k v

section
variable {H : Type} {enc : TypeId × Value → H} {P : Program} {w : World} {base : Nat} {spare : Nat → Bool} {held : Bool}

/-- A field's type is a number's of that kind, or a truth value's. -/
def FieldIs (P : Program) : Option IntKind → TypeId → Prop
  | some k, t => P.underlying t = some (.int k)
  | none, t => P.underlying t = some .bool

theorem open_structs {t e : TypeId} {fs : Array Field} {ks : List (Option IntKind)} {a : Option Addr} {len cap : Nat} {d : DataW H} {p : List MemPlace} (ht : P.underlying t = some (.slice e)) (he : P.underlying e = some (.struct fs))
    (hone : oneCellFields P fs = true) (hC : P.cellsOf e = ks.length) (hk : ∀ (j : Nat) (k : Option IntKind), ks[j]? = some k → ∃ f, fs[j]? = some f ∧ FieldIs P k f.type)
    (h : DataW.Trod enc P w base spare held t (.slice a len cap) d p) : SRow ks w a len cap := by
  obtain ⟨fuel, hf⟩ := h
  rcases open_slice ht hf with ⟨h0, _⟩ | ⟨x, l, c, m, n, D, Pl, hcs, _, hl, hm, hmm, _, hi⟩
  · simp [Value.cells] at h0
    exact .inl h0
  · simp [Value.cells] at hcs
    obtain ⟨rfl, rfl, rfl⟩ := hcs
    refine .inr ⟨x, rfl, hl, hm, fun i hil j k hjk => ?_⟩
    obtain ⟨cs', hc, ht'⟩ := hi i (by rw [hmm]; split <;> omega)
    obtain ⟨f, hj, hty⟩ := hk j k hjk
    obtain ⟨ys, n', _, _, hlen, hyl, hfd⟩ := DataW.trod_struct he ht'
    obtain ⟨_, hcl, hat⟩ := World.cells?_some hc
    obtain ⟨ho, h1⟩ := hone_of hone j f hj
    have hjl : j < ks.length := (List.getElem?_eq_some_iff.1 hjk).1
    have hjs : j < fs.size := (Array.getElem?_eq_some_iff.1 hj).1
    have hcell := hat j (by omega)
    have hg := hfd j f hj
    rw [ho, h1, List.drop_eq_getElem_cons (by omega), List.take_succ_cons, List.take_zero, List.getElem?_eq_getElem (by omega)] at hg
    rw [add_add, hC, List.getElem?_eq_getElem (by omega)] at hcell
    refine ⟨_, hcell, ?_⟩
    cases k with
    | some k =>
      obtain ⟨z, hz, _, hw⟩ := DataW.trod_int hty hg
      simp only [List.cons.injEq, and_true] at hz
      exact ⟨z, hz, hw⟩
    | none =>
      obtain ⟨z, hz, _⟩ := DataW.trod_bool hty hg
      simp only [List.cons.injEq, and_true] at hz
      exact ⟨z, hz⟩
end

/-- Structs of three numbers, in a row. -/
def triCells (k0 k1 k2 : IntKind) : List (Int × Int × Int) → List Value
  | [] => []
  | a :: l => .int k0 a.1 :: .int k1 a.2.1 :: .int k2 a.2.2 :: triCells k0 k1 k2 l
theorem triCells_length (k0 k1 k2 : IntKind) : ∀ l, (triCells k0 k1 k2 l).length = 3 * l.length
  | [] => rfl
  | a :: l => by simp [triCells, triCells_length k0 k1 k2 l]; omega
theorem triCells_get (k0 k1 k2 : IntKind) : ∀ (l : List (Int × Int × Int)) (i : Nat) (h : i < l.length), (triCells k0 k1 k2 l)[i * 3]? = some (.int k0 (l[i]).1) ∧ (triCells k0 k1 k2 l)[i * 3 + 1]? = some (.int k1 (l[i]).2.1) ∧ (triCells k0 k1 k2 l)[i * 3 + 2]? = some (.int k2 (l[i]).2.2)
  | a :: l, 0, _ => ⟨rfl, rfl, rfl⟩
  | a :: l, i + 1, h => by
    have := triCells_get k0 k1 k2 l i (by simpa using h)
    simp only [triCells, show (i + 1) * 3 = i * 3 + 1 + 1 + 1 by omega, show i * 3 + 1 + 1 + 1 + 1 = (i * 3 + 1) + 1 + 1 + 1 by omega, show i * 3 + 1 + 1 + 1 + 2 = (i * 3 + 2) + 1 + 1 + 1 by omega, List.getElem?_cons_succ, List.getElem_cons_succ]
    exact this

theorem row_tri {k0 k1 k2 : IntKind} {w : World} {a : Option Addr} {len cap : Nat} (h : SRow [some k0, some k1, some k2] w a len cap) :
    ∃ l : List (Int × Int × Int), len = l.length ∧ Sl w a (triCells k0 k1 k2 l) ∧ (∀ q ∈ l, (Lit.int k0 q.1).wf = true ∧ (Lit.int k1 q.2.1).wf = true ∧ (Lit.int k2 q.2.2).wf = true) ∧ len ≤ cap ∧ cap ≤ maxLen := by
  rcases h with ⟨rfl, rfl, rfl⟩ | ⟨x, rfl, hl, hm, hcell⟩
  · exact ⟨[], rfl, Sl.nil _ _, by simp, Nat.le_refl _, Nat.zero_le _⟩
  · obtain ⟨f, hf⟩ := choose_lt (α := Int × Int × Int) (n := len) (p := fun i q => w.cell? (x.add (i * 3)) = some (.int k0 q.1) ∧ w.cell? (x.add (i * 3 + 1)) = some (.int k1 q.2.1) ∧ w.cell? (x.add (i * 3 + 2)) = some (.int k2 q.2.2) ∧
        (Lit.int k0 q.1).wf = true ∧ (Lit.int k1 q.2.1).wf = true ∧ (Lit.int k2 q.2.2).wf = true) (fun i hi => by
      obtain ⟨_, e0, z0, rfl, g0⟩ := hcell i hi 0 (some k0) rfl
      obtain ⟨_, e1, z1, rfl, g1⟩ := hcell i hi 1 (some k1) rfl
      obtain ⟨_, e2, z2, rfl, g2⟩ := hcell i hi 2 (some k2) rfl
      exact ⟨(z0, z1, z2), e0, e1, e2, g0, g1, g2⟩)
    have hlen : ((List.range len).map f).length = len := by simp
    refine ⟨(List.range len).map f, hlen.symm, fun hpos => ?_, ?_, hl, hm⟩
    · rw [triCells_length, hlen] at hpos
      have h0 := (hf 0 (by omega)).1
      obtain ⟨b, o, sp⟩ := x
      obtain rfl : sp = none := by
        cases sp with
        | none => rfl
        | some _ => simp [World.cell?, Addr.add] at h0; split at h0 <;> simp_all
      refine ⟨b, o, rfl, fun j v hj => ?_⟩
      have hjl : j < 3 * len := by
        have := (List.getElem?_eq_some_iff.1 hj).1
        rwa [triCells_length, hlen] at this
      have e : ∀ j : Nat, (⟨b, o, none⟩ : Addr).add j = ⟨b, o + j, none⟩ := fun j => by unfold Addr.add; split <;> simp_all
      have hi : j / 3 < len := by omega
      obtain ⟨g0, g1, g2⟩ := triCells_get k0 k1 k2 ((List.range len).map f) (j / 3) (by rw [hlen]; exact hi)
      simp only [List.getElem_map, List.getElem_range] at g0 g1 g2
      obtain ⟨c0, c1, c2, _⟩ := hf (j / 3) hi
      rw [e] at c0 c1 c2
      have hr : j % 3 = 0 ∨ j % 3 = 1 ∨ j % 3 = 2 := by omega
      rcases hr with hr | hr | hr
      · rw [show j = j / 3 * 3 by omega] at hj ⊢
        rw [g0] at hj; rw [c0]; exact hj
      · rw [show j = j / 3 * 3 + 1 by omega] at hj ⊢
        rw [g1] at hj; rw [c1]; exact hj
      · rw [show j = j / 3 * 3 + 2 by omega] at hj ⊢
        rw [g2] at hj; rw [c2]; exact hj
    · intro q hq
      obtain ⟨i, hi, rfl⟩ := List.mem_map.1 hq
      exact (hf i (List.mem_range.1 hi)).2.2.2
end Go.Proofs.Ytnpmelonkcgpgad
