/- Statements of a function one by one: a part's own law, and how the parts meet; no program in sight. -/
import Derived.Test.YtnpmelonkcgpgadMapW
import Derived.Deep.LoopGhost
import Derived.Deep.CutRange
namespace Go.Proofs.Ytnpmelonkcgpgad
open Go.RowKit
set_option linter.unusedVariables false
set_option linter.unusedSimpArgs false

/-- The statement at a path. -/
def codeAt : Code → List Nat → Code
  | c, [] => c
  | .seq a b, n :: p => match n with
    | 0 => codeAt a p
    | _ => codeAt b p
  | .block _ c, _ :: p => codeAt c p
  | .loop c, _ :: p => codeAt c p
  | .scope c, _ :: p => codeAt c p
  | .cond _ a b, n :: p => match n with
    | 0 => codeAt a p
    | _ => codeAt b p
  | _, _ :: _ => .skip
noncomputable def fbody (fn : Func) : Code := fn.body.getD .skip

def Never : Exit → Act → World → Prop := fun _ _ _ => False

theorem wp_part {P : Program} {s : Code} {K : Act → World → Prop} {Q : Exit → Act → World → Prop} {a : Act} {w : World} {R : Act → World → Prop}
    (h : s.wp P (Exit.then R Never) a w) (rest : ∀ a' w', R a' w' → K a' w') : s.wp P (Exit.then K Q) a w := by
  refine wp_mono h ?_
  intro e a' w' hq
  cases e with
  | normal => exact rest _ _ hq
  | exit id => exact hq.elim
  | goto l => exact hq.elim
  | ret => exact hq.elim
  | panic ch => exact hq.elim
  | outgrown => exact hq.elim

/-- .. where nothing stands behind the part. -/
theorem wp_part_q {P : Program} {s : Code} {Q : Exit → Act → World → Prop} {a : Act} {w : World} {R : Act → World → Prop}
    (h : s.wp P (Exit.then R Never) a w) (rest : ∀ a' w', R a' w' → Q .normal a' w') : s.wp P Q a w := by
  refine wp_mono h ?_
  intro e a' w' hq
  cases e with
  | normal => exact rest _ _ hq
  | exit id => exact hq.elim
  | goto l => exact hq.elim
  | ret => exact hq.elim
  | panic ch => exact hq.elim
  | outgrown => exact hq.elim

/-- What a part leaves: of the frame, and of the world. -/
structure Out (K : Act → Prop) (M : World → Prop) (a : Act) (w : World) : Prop where
  frame : K a
  world : M w

/-- What a round hands on. -/
def Nxt (I : Nat → Act → World → Prop) (n : Nat) (a : Act) (w : World) : Prop := ∃ n', n' < n ∧ I n' a w
theorem wp_loop_nxt {P : Program} {Q : Exit → Act → World → Prop} {a : Act} {w : World} {c : Code} (I : Nat → Act → World → Prop) (n₀ : Nat) (h₀ : I n₀ a w)
    (round : ∀ n a w, I n a w → c.wp P (Exit.then (Nxt I n) Q) a w) : (Code.loop c).wp P Q a w :=
  wp_loop_ghost I n₀ h₀ round

theorem frame_open {n : Nat} {a : Act} (hd : a.defers = []) (hs : a.tmps.size = n) : ∃ f : Nat → Value, a = ⟨((List.range n).map f).toArray, []⟩ := by
  obtain ⟨tmps, defers⟩ := a
  dsimp only at hd hs
  subst hd; subst hs
  refine ⟨fun k => tmps.getD k undef, ?_⟩
  congr 1
  apply Array.ext
  · simp
  · intro i h1 h2
    simp [Array.getD, h1]
theorem frame_get {n k : Nat} {f : Nat → Value} {v : Value} (h : (((List.range n).map f).toArray)[k]? = some v) : f k = v := by
  rw [List.getElem?_toArray, List.getElem?_map] at h
  rcases Nat.lt_or_ge k n with hk | hk
  · rw [List.getElem?_range hk] at h
    exact Option.some.inj h
  · rw [List.getElem?_eq_none (by simpa using hk)] at h; cases h
end Go.Proofs.Ytnpmelonkcgpgad
