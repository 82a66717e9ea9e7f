/- Cookies: made; classes and their numbers. -/
import Derived.Test.YtnpmelonkcgpgacDoorChd
namespace Go.Proofs.YtnpmelonkcgpgacDoor
open Go.RowKit
set_option linter.unusedVariables false
set_option linter.unusedSimpArgs false

/-- The classes' numbers. -/
def clsL : List Int := [88, 216, 536, 1024, 1220, 1360, 1440, 1460]
def clsN (k : Nat) : Int := clsL.getD k 0
/-- The two tables, as they are laid. -/
structure Glob (w : World) : Prop where
  sizes : ∀ k : Nat, k < 8 → w.cell? ⟨0, k, none⟩ = some (.int .u16 (clsN k))
  classes : ∀ k : Nat, k < 8 → w.cell? ⟨1, k, none⟩ = some (.int .u16 (clsN k))
theorem Glob.below {w w' : World} (h : Glob w) (hb : Below w.heap.size w w') : Glob w' :=
  ⟨fun k hk => (hb.cell (cell_lt (h.sizes k hk))).trans (h.sizes k hk), fun k hk => (hb.cell (cell_lt (h.classes k hk))).trans (h.classes k hk)⟩

section
variable {key p s d sp dp c ep n tick cls scl : Int} {sack : Bool}

theorem size_bad (cls : Int) (w : World) (h : cls < 0 ∨ 7 < cls) : Calls Tryd.prog 13 #[.int .i64 cls] w fun e w' => e = .returned (.tuple #[.int .u16 0, .int .i64 1]) ∧ w = w' := by
  by_cases h0 : cls < 0
  · go_enter Tryd.func13, Tryd.ntmps13
    go_wp2
    go_ret2
    exact ⟨rfl, rfl⟩
  · have h1 : 8 ≤ cls := by omega
    go_enter Tryd.func13, Tryd.ntmps13
    go_wp2
    go_ret2
    exact ⟨rfl, rfl⟩

theorem size_ok (k : Nat) (w : World) (h : k < 8) (hg : Glob w) : Calls Tryd.prog 13 #[.int .i64 k] w fun e w' => e = .returned (.tuple #[.int .u16 (clsN k), .int .i64 0]) ∧ w = w' := by
  have hc := hg.classes k h
  go_enter Tryd.func13, Tryd.ntmps13
  go_wp2
  go_ret2
  exact ⟨rfl, rfl⟩

/-- The lowest eight bits. -/
def lowC (cls : Int) (sack : Bool) (scl : Int) : Int :=
  bits BinOp.or IntKind.u32 (if sack then bits BinOp.or IntKind.u32 (cls * 32) 16 else cls * 32) (if scl < 0 then 15 else scl)
abbrev infoV (cls : Int) (sack : Bool) (scl : Int) : Value := .agg #[.int .i64 cls, .bool sack, .int .i64 scl]

theorem low_any (w : World) (h0 : 0 ≤ cls) (h1 : cls ≤ 7) (h2 : -1 ≤ scl) (h3 : scl ≤ 14) : Calls Tryd.prog 10 #[infoV cls sack scl] w fun e w' => e = .returned (.int .u32 (lowC cls sack scl)) ∧ Below w.heap.size w w' := by
  unfold lowC
  by_cases hs : scl < 0
  · cases sack
    all_goals
      go_enter Tryd.func10, Tryd.ntmps10
      go_wp2
      go_ret
      exact ⟨rfl, bel_alloc _⟩
  · have hs' : 0 ≤ scl := by omega
    cases sack
    all_goals
      go_enter Tryd.func10, Tryd.ntmps10
      go_wp2
      go_ret
      exact ⟨rfl, bel_alloc _⟩
end
end Go.Proofs.YtnpmelonkcgpgacDoor

