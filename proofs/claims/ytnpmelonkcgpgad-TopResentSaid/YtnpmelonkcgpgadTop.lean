/- The Go function TopResent answers true for every input, and its arguments read afterwards as before. No condition. (The frame of the row's step began as the kit's proof-skeleton.) -/
import Derived.Test.YtnpmelonkcgpgadRows
import Derived.WalkKit
import Derived.ProofKit
import Derived.OpenShut
import Derived.ShutString
import Derived.ChangeOld
import Derived.Below
import Derived.Test.YtnpmelonkcgpgadQuad
import Derived.Test.YtnpmelonkcgpgadKno
import Derived.Test.YtnpmelonkcgpgadStructs
namespace Go.Proofs.Ytnpmelonkcgpgad.topResent
open Go.ChangeShapes Go.WideShapes Go.ChangeAt Go.RowKit
open Go.ChangeMaps (open_string shut_string)
set_option linter.unusedVariables false

theorem own : ownKnob Try.prog.godebug = none := by kernel_rfl
theorem laidOut : laidOutB Try.prog = true := by kernel_rfl

/-- WHAT THE WALK IS TOLD OF A SLICE OF INTEGERS THAT CAME IN: it is nil; or it leads to a row of 'cap' cells, the numbers 'zs' (the first 'len' are its elements, the rest its spare room), each fitting its kind. -/
def IsRow (k : IntKind) (w : World) (a : Option Addr) (len cap : Nat) (zs : List Int) : Prop :=
  (a = none ∧ len = 0 ∧ cap = 0 ∧ zs = []) ∨
  ∃ x, a = some x ∧ len ≤ cap ∧ cap ≤ maxLen ∧ zs.length = cap ∧ (∀ i, i < zs.length → w.cell? (x.add i) = some (.int k (zs.getD i 0))) ∧ ∀ n ∈ zs, (Lit.int k n).wf = true

theorem wf_u8 (x : Int) : ((Lit.int .u8 x).wf = true) = (0 ≤ x ∧ x < 256) := by
  simp [Lit.wf, IntKind.min, IntKind.max, IntKind.signed, IntKind.bits]; omega
theorem wf_u16 (x : Int) : ((Lit.int .u16 x).wf = true) = (0 ≤ x ∧ x < 65536) := by
  simp [Lit.wf, IntKind.min, IntKind.max, IntKind.signed, IntKind.bits]; omega
theorem wf_u32 (x : Int) : ((Lit.int .u32 x).wf = true) = (0 ≤ x ∧ x < 4294967296) := by
  simp [Lit.wf, IntKind.min, IntKind.max, IntKind.signed, IntKind.bits]; omega
theorem wf_i16 (x : Int) : ((Lit.int .i16 x).wf = true) = (-32768 ≤ x ∧ x ≤ 32767) := by
  simp [Lit.wf, IntKind.min, IntKind.max, IntKind.signed, IntKind.bits]


/-! ### STEP 1: THE WALK: the Go text returns true, AND WRITES NOTHING THAT WAS THERE: 'Below w.heap.size w w'' (Derived/Below.lean: '.refl', '.alloc', '.drew', '.setCell' at a new block, '.trans'). Open each 'IsRow' by 'rcases' AHEAD of 'go_enter'; part every test ahead of the walk. -/
theorem walk (a0 : Int) (a1 : Int) (a2 : Int) (a3 : Int) (a4 : Option Addr) (len4 cap4 : Nat) (w : World) (w0 : (Lit.int .u32 a0).wf = true) (w1 : (Lit.int .u16 a1).wf = true) (w2 : (Lit.int .u8 a2).wf = true) (w3 : (Lit.int .u8 a3).wf = true) (w4 : SRow [some .u8, some .u8, some .i16, some .u16] w a4 len4 cap4) :
    Calls Try.prog 3 #[.int .u32 a0, .int .u16 a1, .int .u8 a2, .int .u8 a3, .slice a4 len4 cap4] w fun e w' => e = .returned (.bool true) ∧ Below w.heap.size w w' := by
  simp only [wf_u16, wf_u8, wf_u32] at w0 w1 w2 w3
  obtain ⟨l, rfl, hl, hb, hlc, hcm⟩ := row_quad w4
  simp only [wf_u8, wf_i16, wf_u16] at hb
  have hb' : ∀ a ∈ l, 0 ≤ a.1 ∧ a.1 < 256 ∧ 0 ≤ a.2.1 ∧ a.2.1 < 256 ∧ -32768 ≤ a.2.2.1 ∧ a.2.2.1 ≤ 32767 ∧ 0 ≤ a.2.2.2 ∧ a.2.2.2 < 65536 := fun a ha => by have := hb a ha; omega
  have HB := Lib.hid hb'
  have HL := Lib.hid hl
  clear w4 hb hb' hl
  by_cases hlong : 60 < l.length
  · go_enter Try.func3, Try.ntmps3
    go_wp2_with (go_at_call 4; refine (knows_any _).mono ?_; rintro e w' ⟨rfl, hb⟩)
    go_ret
    exact ⟨rfl, hb⟩
  · have e2 : a3.tmod 13 = a3 % 13 := Int.tmod_eq_emod_of_nonneg w3.1
    have g2 := Int.emod_nonneg a3 (show (13 : Int) ≠ 0 by omega)
    have g3 := Int.emod_lt_of_pos a3 (show (0 : Int) < 13 by omega)
    have P1 : Hid (∀ (w' : World), Below w.heap.size w w' → Calls Try.prog 5 #[.int .u32 a0, .int .i64 a1, .int .u64 a2, .int .i64 (a3 % 13), .slice a4 l.length cap4] w' fun e w'' => ∃ n, e = .returned (.tuple #[.int .i64 n, .bool true]) ∧ Below w'.heap.size w' w'') := Lib.hid (by
      intro w' hbw
      by_cases hz : a2 < 1 ∨ a3 % 13 < 1 ∨ 10 < a3 % 13
      · exact (resent_bad _ _ _ _ _ _ (by omega) (by omega) (by omega) (by omega) hz ⟨_, _, _, rfl⟩).mono (by rintro e w2 ⟨rfl, rfl⟩; exact ⟨_, rfl, Below.refl _ _⟩)
      · exact (resent_ok a0 a1 a2 (a3 % 13) a4 l cap4 w' (by omega) (by omega) (by omega) (by omega) (by omega) (by omega) (by omega) (by omega) (HL.out.below hbw) HB.out (by omega) hlc).mono (by rintro e w2 ⟨rfl, hb⟩; exact ⟨_, rfl, hb⟩))
    generalize a3 % 13 = tr at *
    go_enter Try.func3, Try.ntmps3
    go_wp2_with (first
      | (go_at_call 5; go_loud ((with_reducible refine (P1.out _ (Below.refl _ _)).mono ?_); rintro e w1 ⟨n, rfl, hb1⟩))
      | (go_at_call 4; (with_reducible refine (knows_any _).mono ?_); rintro e w' ⟨rfl, hb2⟩))
    go_ret
    exact ⟨rfl, hb1.trans (hb2.mono hb1.size)⟩

/-! ### THE ROW's STEP: WRITTEN OUT: LEAVE IT -/
set_option maxRecDepth 100000 in
theorem lifted (os : Os) (started : os.Started) (H : Type) (enc : TypeId × Value → H) :
    ReturnsInHanded {} Try.checked os 3 .any (Rows.topResentSpec.pre6 enc Try.prog Try.f3 Rows.topResentRow.domain false) (Rows.topResentSpec.post enc Try.prog Try.f3 false true false false) := by
  refine returnsInHanded_of_change (C := Try.checked) own started (by kernel_rfl) Try.func3
    (ChangeSpec.witness6 (enc := enc) (C := Try.checked) false ⟨#[], #[.int .u32 0, .int .u16 0, .int .u8 0, .int .u8 0, .slice none 0 0], []⟩ 8 (by kernel_rfl) (by kernel_rfl) (by kernel_rfl) (by kernel_rfl)) ?_
  intro W base args ds gs before hval0 hW hcnd _
  have hval : ∀ (j : Nat) t v, Try.f3.params[j]? = some t → args[j]? = some v → Value.okWide Try.prog W .any base t v := hval0
  have hW' := hW
  obtain ⟨p, q, hA0, hV, rfl, hfz, hnd⟩ := hW
  have hA : DataW.TrodAll enc Try.prog W 0 (fun _ => true) true Try.f3.params.toList args.toList ds p := hA0
  rw [Try.params3] at hA hval
  obtain ⟨v0, vs0, d0, ds0, p0, q0, hargs, rfl, rfl, h0, r0⟩ := trodAll_cons hA
  obtain ⟨v1, vs1, d1, ds1, p1, q1, rfl, rfl, rfl, h1, r1⟩ := trodAll_cons r0
  obtain ⟨v2, vs2, d2, ds2, p2, q2, rfl, rfl, rfl, h2, r2⟩ := trodAll_cons r1
  obtain ⟨v3, vs3, d3, ds3, p3, q3, rfl, rfl, rfl, h3, r3⟩ := trodAll_cons r2
  obtain ⟨v4, vs4, d4, ds4, p4, q4, rfl, rfl, rfl, h4, r4⟩ := trodAll_cons r3
  obtain ⟨rfl, rfl, rfl⟩ := trodAll_nil r4
  obtain rfl : args = #[v0, v1, v2, v3, v4] := by cases args; simp_all
  obtain ⟨rfl, rfl⟩ := trodVars_none hV
  obtain ⟨a0, rfl, rfl, rfl, w0⟩ := open_int Try.underlying22 (hval 0 22 v0 rfl rfl) h0
  obtain ⟨a1, rfl, rfl, rfl, w1⟩ := open_int Try.underlying23 (hval 1 23 v1 rfl rfl) h1
  obtain ⟨a2, rfl, rfl, rfl, w2⟩ := open_int Try.underlying5 (hval 2 5 v2 rfl rfl) h2
  obtain ⟨a3, rfl, rfl, rfl, w3⟩ := open_int Try.underlying5 (hval 3 5 v3 rfl rfl) h3
  obtain ⟨a4, len4, cap4, rfl⟩ := okWide_slice Try.underlying24 (hval 4 24 v4 rfl rfl)
  have k4 := h4
  have lt4 : ∀ x ∈ p4, x.block < W.heap.size := by obtain ⟨m, hm⟩ := k4; exact DataW.trod_lt m _ _ _ hm
  have w4 : SRow [some .u8, some .u8, some .i16, some .u16] W a4 len4 cap4 := open_structs Try.underlying24 Try.underlying47 (by kernel_rfl) (by kernel_rfl) (fun j k hj => match j, hj with | 0, hj => by obtain rfl := Option.some.inj hj; exact ⟨_, rfl, Try.underlying5⟩ | 1, hj => by obtain rfl := Option.some.inj hj; exact ⟨_, rfl, Try.underlying5⟩ | 2, hj => by obtain rfl := Option.some.inj hj; exact ⟨_, rfl, Try.underlying45⟩ | 3, hj => by obtain rfl := Option.some.inj hj; exact ⟨_, rfl, Try.underlying23⟩ | n + 4, hj => by simp at hj) h4
  clear hA0 hval0
  refine (walk a0 a1 a2 a3 a4 len4 cap4 W w0 w1 w2 w3 w4).mono fun e W' ⟨he, bel⟩ => ?_
  subst he
  exact ⟨_, rfl, _, _, _, [], _, [], hW', trodAll_mk1 (shut_bool Try.underlying4 _), (trodAll_cons_mk (shut_int Try.underlying22 w0) (trodAll_cons_mk (shut_int Try.underlying23 w1) (trodAll_cons_mk (shut_int Try.underlying5 w2) (trodAll_cons_mk (shut_int Try.underlying5 w3) (trodAll_cons_mk (Below.trod laidOut (by kernel_rfl) (of_decide_eq_true (by kernel_rfl)) k4 bel lt4) trodAll_mk0))))), rfl, bel.frame _, fun h => by cases h⟩

theorem over : Rows.topResentRow.holds Try.pinned (OpenSpec.ofChange Rows.topResentSpec) :=
  OpenClaim.holds_of_wide 3 Try.f3 rfl rfl rfl rfl rfl rfl rfl ⟨rfl, rfl, rfl, rfl, rfl⟩ rfl rfl rfl rfl rfl (by kernel_rfl) Try.func3 (by kernel_rfl)
    (of_decide_eq_true (by kernel_rfl)) (by unfold Func.isWrapper; first | (rw [if_pos (by decide +kernel)]; kernel_rfl) | (rw [if_neg (by decide +kernel)]; exact ⟨rfl, rfl⟩))
    (fun os started H enc _ => lifted os started H enc)

/-- ████ THE STATEMENT ████ -/
theorem proved : Rows.TopResentSaid := over
#print axioms proved
end Go.Proofs.Ytnpmelonkcgpgad.topResent

