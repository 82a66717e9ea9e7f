/- The Go function TopPorts answers true for every input, and its arguments read afterwards as before. No condition. (The frame of the row's step began as the kit's proof-skeleton.) -/
import Derived.Test.YtnpmelonkcgpgabRows
import Derived.WalkKit
import Derived.ProofKit
import Derived.OpenShut
import Derived.ShutString
import Derived.ChangeOld
import Derived.Below
import Derived.Test.YtnpmelonkcgpgabKno
namespace Go.Proofs.Ytnpmelonkcgpgab.topPorts
open Go.ChangeShapes Go.WideShapes Go.ChangeAt Go.RowKit
open Go.ChangeMaps (open_string shut_string)
set_option linter.unusedVariables false

theorem own : ownKnob Try.prog.godebug = none := by kernel_rfl
theorem laidOut : laidOutB Try.prog = true := by kernel_rfl

/-- WHAT THE WALK IS TOLD OF A SLICE OF INTEGERS THAT CAME IN: it is nil; or it leads to a row of 'cap' cells, the numbers 'zs' (the first 'len' are its elements, the rest its spare room), each fitting its kind. -/
def IsRow (k : IntKind) (w : World) (a : Option Addr) (len cap : Nat) (zs : List Int) : Prop :=
  (a = none ∧ len = 0 ∧ cap = 0 ∧ zs = []) ∨
  ∃ x, a = some x ∧ len ≤ cap ∧ cap ≤ maxLen ∧ zs.length = cap ∧ (∀ i, i < zs.length → w.cell? (x.add i) = some (.int k (zs.getD i 0))) ∧ ∀ n ∈ zs, (Lit.int k n).wf = true

theorem wf_u8 (x : Int) : ((Lit.int .u8 x).wf = true) = (0 ≤ x ∧ x < 256) := by
  simp [Lit.wf, IntKind.min, IntKind.max, IntKind.signed, IntKind.bits]; omega
theorem wf_u16 (x : Int) : ((Lit.int .u16 x).wf = true) = (0 ≤ x ∧ x < 65536) := by
  simp [Lit.wf, IntKind.min, IntKind.max, IntKind.signed, IntKind.bits]; omega
theorem wf_i16 (x : Int) : ((Lit.int .i16 x).wf = true) = (-32768 ≤ x ∧ x ≤ 32767) := by
  simp [Lit.wf, IntKind.min, IntKind.max, IntKind.signed, IntKind.bits]


/-! ### STEP 1: THE WALK: the Go text returns true, AND WRITES NOTHING THAT WAS THERE: 'Below w.heap.size w w'' (Derived/Below.lean: '.refl', '.alloc', '.drew', '.setCell' at a new block, '.trans'). Open each 'IsRow' by 'rcases' AHEAD of 'go_enter'; part every test ahead of the walk. -/
theorem walk (a0 : Int) (a1 : Int) (a2 : Int) (a3 : Bool) (a4 : Option Addr) (len4 cap4 : Nat) (w : World) (w0 : (Lit.int .u16 a0).wf = true) (w1 : (Lit.int .u8 a1).wf = true) (w2 : (Lit.int .u8 a2).wf = true) (w4 : SRow [some .u8, some .u8, some .i16] w a4 len4 cap4) :
    Calls Try.prog 3 #[.int .u16 a0, .int .u8 a1, .int .u8 a2, .bool a3, .slice a4 len4 cap4] w fun e w' => e = .returned (.bool true) ∧ Below w.heap.size w w' := by
  simp only [wf_u16, wf_u8] at w0 w1 w2
  obtain ⟨l, rfl, hl, hb, hlc, hcm⟩ := row_tri w4
  simp only [wf_u8, wf_i16] at hb
  rw [← act_tri] at hl
  have hb' : ∀ a ∈ l, 0 ≤ a.1 ∧ a.1 < 256 ∧ 0 ≤ a.2.1 ∧ a.2.1 < 256 ∧ -32768 ≤ a.2.2 ∧ a.2.2 ≤ 32767 := fun a ha => by have := hb a ha; omega
  have HB := Lib.hid hb'
  have HL := Lib.hid hl
  clear w4 hb hb' hl
  by_cases hlong : 80 < l.length
  · go_enter Try.func3, Try.ntmps3
    go_wp2_with (go_at_call 4; refine (knows_any _).mono ?_; rintro e w' ⟨rfl, hb⟩)
    go_ret
    exact ⟨rfl, hb⟩
  · have e1 : a0.tmod 60000 = a0 % 60000 := Int.tmod_eq_emod_of_nonneg w0.1
    have e2 : a1.tmod 12 = a1 % 12 := Int.tmod_eq_emod_of_nonneg w1.1
    have g0 := Int.emod_nonneg a0 (show (60000 : Int) ≠ 0 by omega)
    have g1 := Int.emod_lt_of_pos a0 (show (0 : Int) < 60000 by omega)
    have g2 := Int.emod_nonneg a1 (show (12 : Int) ≠ 0 by omega)
    have g3 := Int.emod_lt_of_pos a1 (show (0 : Int) < 12 by omega)
    have P1 : Hid (∀ (r : Int) (w' : World), Below w.heap.size w w' → 0 ≤ r → r ≤ 1099511628031 → Calls Try.prog 5 #[.int .i64 (a0 % 60000), .int .i64 (a0 % 60000 + a1 % 12), .int .u64 r, .slice a4 l.length cap4] w' fun e w'' => ∃ n, e = .returned (.tuple #[.int .i64 n, .bool true]) ∧ Below w'.heap.size w' w'') := Lib.hid (by
      intro r w' hbw hr0 hr1
      by_cases hz : a0 % 60000 = 0
      · rw [hz]
        exact (ported_zero _ _ _ _ (by omega) (by omega) ⟨_, _, _, rfl⟩).mono (by rintro e w2 ⟨rfl, rfl⟩; exact ⟨_, rfl, Below.refl _ _⟩)
      · by_cases hr : 1099511627776 < r
        · exact (ported_late _ _ _ _ _ (by omega) (by omega) (by omega) hr ⟨_, _, _, rfl⟩).mono (by rintro e w2 ⟨rfl, rfl⟩; exact ⟨_, rfl, Below.refl _ _⟩)
        · exact (ported_ok _ _ r a4 l cap4 _ (by omega) (by omega) (by omega) hr0 (by omega) (HL.out.below hbw) HB.out (by omega) hlc).mono (by rintro e w2 ⟨rfl, hb⟩; exact ⟨_, rfl, hb⟩))
    generalize a0 % 60000 = lo at *
    generalize a1 % 12 = more at *
    cases a3
    all_goals
      go_enter Try.func3, Try.ntmps3
      go_wp2_with (first
        | (go_at_call 5; go_loud ((with_reducible refine (P1.out _ _ (Below.refl _ _) (by omega) (by omega)).mono ?_); rintro e w1 ⟨n, rfl, hb1⟩))
        | (go_at_call 4; (with_reducible refine (knows_any _).mono ?_); rintro e w' ⟨rfl, hb2⟩))
      go_ret
      exact ⟨rfl, hb1.trans (hb2.mono hb1.size)⟩

/-! ### THE ROW's STEP: WRITTEN OUT: LEAVE IT -/
set_option maxRecDepth 100000 in
theorem lifted (os : Os) (started : os.Started) (H : Type) (enc : TypeId × Value → H) :
    ReturnsInHanded {} Try.checked os 3 .any (Rows.topPortsSpec.pre6 enc Try.prog Try.f3 Rows.topPortsRow.domain false) (Rows.topPortsSpec.post enc Try.prog Try.f3 false true false false) := by
  refine returnsInHanded_of_change (C := Try.checked) own started (by kernel_rfl) Try.func3
    (ChangeSpec.witness6 (enc := enc) (C := Try.checked) false ⟨#[], #[.int .u16 0, .int .u8 0, .int .u8 0, .bool false, .slice none 0 0], []⟩ 8 (by kernel_rfl) (by kernel_rfl) (by kernel_rfl) (by kernel_rfl)) ?_
  intro W base args ds gs before hval0 hW hcnd _
  have hval : ∀ (j : Nat) t v, Try.f3.params[j]? = some t → args[j]? = some v → Value.okWide Try.prog W .any base t v := hval0
  have hW' := hW
  obtain ⟨p, q, hA0, hV, rfl, hfz, hnd⟩ := hW
  have hA : DataW.TrodAll enc Try.prog W 0 (fun _ => true) true Try.f3.params.toList args.toList ds p := hA0
  rw [Try.params3] at hA hval
  obtain ⟨v0, vs0, d0, ds0, p0, q0, hargs, rfl, rfl, h0, r0⟩ := trodAll_cons hA
  obtain ⟨v1, vs1, d1, ds1, p1, q1, rfl, rfl, rfl, h1, r1⟩ := trodAll_cons r0
  obtain ⟨v2, vs2, d2, ds2, p2, q2, rfl, rfl, rfl, h2, r2⟩ := trodAll_cons r1
  obtain ⟨v3, vs3, d3, ds3, p3, q3, rfl, rfl, rfl, h3, r3⟩ := trodAll_cons r2
  obtain ⟨v4, vs4, d4, ds4, p4, q4, rfl, rfl, rfl, h4, r4⟩ := trodAll_cons r3
  obtain ⟨rfl, rfl, rfl⟩ := trodAll_nil r4
  obtain rfl : args = #[v0, v1, v2, v3, v4] := by cases args; simp_all
  obtain ⟨rfl, rfl⟩ := trodVars_none hV
  obtain ⟨a0, rfl, rfl, rfl, w0⟩ := open_int Try.underlying22 (hval 0 22 v0 rfl rfl) h0
  obtain ⟨a1, rfl, rfl, rfl, w1⟩ := open_int Try.underlying5 (hval 1 5 v1 rfl rfl) h1
  obtain ⟨a2, rfl, rfl, rfl, w2⟩ := open_int Try.underlying5 (hval 2 5 v2 rfl rfl) h2
  obtain ⟨a3, rfl, rfl, rfl⟩ := open_bool Try.underlying4 (hval 3 4 v3 rfl rfl) h3
  obtain ⟨a4, len4, cap4, rfl⟩ := okWide_slice Try.underlying23 (hval 4 23 v4 rfl rfl)
  have k4 := h4
  have lt4 : ∀ x ∈ p4, x.block < W.heap.size := by obtain ⟨m, hm⟩ := k4; exact DataW.trod_lt m _ _ _ hm
  have w4 : SRow [some .u8, some .u8, some .i16] W a4 len4 cap4 := open_structs Try.underlying23 Try.underlying38 (by kernel_rfl) (by kernel_rfl) (fun j k hj => match j, hj with | 0, hj => by obtain rfl := Option.some.inj hj; exact ⟨_, rfl, Try.underlying5⟩ | 1, hj => by obtain rfl := Option.some.inj hj; exact ⟨_, rfl, Try.underlying5⟩ | 2, hj => by obtain rfl := Option.some.inj hj; exact ⟨_, rfl, Try.underlying36⟩ | n + 3, hj => by simp at hj) h4
  clear hA0 hval0
  refine (walk a0 a1 a2 a3 a4 len4 cap4 W w0 w1 w2 w4).mono fun e W' ⟨he, bel⟩ => ?_
  subst he
  exact ⟨_, rfl, _, _, _, [], _, [], hW', trodAll_mk1 (shut_bool Try.underlying4 _), (trodAll_cons_mk (shut_int Try.underlying22 w0) (trodAll_cons_mk (shut_int Try.underlying5 w1) (trodAll_cons_mk (shut_int Try.underlying5 w2) (trodAll_cons_mk (shut_bool Try.underlying4 _) (trodAll_cons_mk (Below.trod laidOut (by kernel_rfl) (of_decide_eq_true (by kernel_rfl)) k4 bel lt4) trodAll_mk0))))), rfl, bel.frame _, fun h => by cases h⟩

theorem over : Rows.topPortsRow.holds Try.pinned (OpenSpec.ofChange Rows.topPortsSpec) :=
  OpenClaim.holds_of_wide 3 Try.f3 rfl rfl rfl rfl rfl rfl rfl ⟨rfl, rfl, rfl, rfl, rfl⟩ rfl rfl rfl rfl rfl (by kernel_rfl) Try.func3 (by kernel_rfl)
    (of_decide_eq_true (by kernel_rfl)) (by unfold Func.isWrapper; first | (rw [if_pos (by decide +kernel)]; kernel_rfl) | (rw [if_neg (by decide +kernel)]; exact ⟨rfl, rfl⟩))
    (fun os started H enc _ => lifted os started H enc)

/-- ████ THE STATEMENT ████ -/
theorem proved : Rows.TopPortsSaid := over
#print axioms proved
end Go.Proofs.Ytnpmelonkcgpgab.topPorts

