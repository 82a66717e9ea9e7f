/- The Go function TopCookies answers true for every input, and its arguments read afterwards as before; the two tables read as they are laid (the card ties that to the program's text). (The frame of the row's step began as the kit's proof-skeleton.) -/
import Derived.Test.YtnpmelonkcgpgacDoorRows
import Derived.Test.YtnpmelonkcgpgacDoorCards
import Derived.Test.YtnpmelonkcgpgacDoorTie
import Derived.Test.YtnpmelonkcgpgacDoorKno
import Derived.WalkKit
import Derived.ProofKit
import Derived.OpenShut
import Derived.ShutString
import Derived.ChangeOld
import Derived.Below
import Derived.LaidMore
import Derived.Stop.Joined
import Derived.Deep.Fields
import Derived.SevenTiedAt
namespace Go.Proofs.YtnpmelonkcgpgacDoor.topCookies
open Go.ChangeShapes Go.WideShapes Go.ChangeAt Go.RowKit
open Go.ChangeMaps (open_string shut_string)
set_option linter.unusedVariables false
set_option linter.unusedSimpArgs false

theorem own : ownKnob Tryd.prog.godebug = none := by kernel_rfl
theorem laidOut : laidOutB Tryd.prog = true := by kernel_rfl

theorem wf_u8 (x : Int) : ((Lit.int .u8 x).wf = true) = (0 ≤ x ∧ x < 256) := by
  simp [Lit.wf, IntKind.min, IntKind.max, IntKind.signed, IntKind.bits]; omega
theorem wf_u16 (x : Int) : ((Lit.int .u16 x).wf = true) = (0 ≤ x ∧ x < 65536) := by
  simp [Lit.wf, IntKind.min, IntKind.max, IntKind.signed, IntKind.bits]; omega
theorem wf_u32 (x : Int) : ((Lit.int .u32 x).wf = true) = (0 ≤ x ∧ x < 4294967296) := by
  simp [Lit.wf, IntKind.min, IntKind.max, IntKind.signed, IntKind.bits]; omega
theorem wf_u64 (x : Int) : ((Lit.int .u64 x).wf = true) = (0 ≤ x ∧ x < 18446744073709551616) := by
  simp [Lit.wf, IntKind.min, IntKind.max, IntKind.signed, IntKind.bits]; omega
theorem wf_i8 (x : Int) : ((Lit.int .i8 x).wf = true) = (-128 ≤ x ∧ x ≤ 127) := by
  simp [Lit.wf, IntKind.min, IntKind.max, IntKind.signed, IntKind.bits]

set_option maxRecDepth 100000 in
set_option maxHeartbeats 1000000 in
theorem walk (key p s d sp dp c tick cls scl later bit mss : Int) (sack : Bool) (w : World) (hg : Glob w) (ht : TupIn p s d sp dp c) (w0 : (Lit.int .u64 key).wf = true) (w3 : (Lit.int .u64 tick).wf = true) (w4 : (Lit.int .i8 cls).wf = true) (w5 : (Lit.int .i8 scl).wf = true) (w7 : (Lit.int .u16 later).wf = true) (w8 : (Lit.int .u8 bit).wf = true) (w9 : (Lit.int .u16 mss).wf = true) :
    Calls Tryd.prog 3 #[.int .u64 key, tupV p s d sp dp, .int .u32 c, .int .u64 tick, .int .i8 cls, .int .i8 scl, .bool sack, .int .u16 later, .int .u8 bit, .int .u16 mss] w fun e w' => e = .returned (.bool true) ∧ Below w.heap.size w w' := by
  simp only [wf_u8, wf_u16, wf_u64, wf_i8] at w0 w3 w4 w5 w7 w8 w9
  have BB := Lib.hid (bk_below w p s d sp dp cls sack scl)
  have G0 := Lib.hid (hg.below BB.out)
  have T0 := Lib.hid (Bk.first w p s d sp dp cls sack scl)
  have HT := Lib.hid ht
  have l0 : 0 ≤ later % 300 := Int.emod_nonneg _ (by omega)
  have l1 : later % 300 < 300 := Int.emod_lt_of_pos _ (by omega)
  have e1 : later.tmod 300 = later % 300 := Int.tmod_eq_emod_of_nonneg w7.1
  clear hg ht
  go_enter Tryd.func3, Tryd.ntmps3
  go_wp2_with (first
    | (go_at_call 4
       go_loud (
        have hq := G0.out
        have ht := HT.out
        (with_reducible refine (baked_any _ hq ht w0 (by omega) (by omega) (by omega) (by omega) (by omega) (by omega)).mono ?_)
        clear hq ht
        rintro e w1 ⟨rfl, hb1⟩
        have G1 := Lib.hid (G0.out.below hb1)
        obtain ⟨c0, c1, c2, c3, c4, x0, x1, x2⟩ := T0.out.below hb1))
    | (go_at_call 4
       go_loud (
        have hq := G1.out
        have ht := HT.out
        (with_reducible refine (baked_any _ hq ht w0 (by omega) (by omega) (by omega) (by omega) (by omega) (by omega)).mono ?_)
        clear hq ht
        rintro e w2 ⟨rfl, hb2⟩
        have G2 := Lib.hid (G1.out.below hb2)))
    | (go_at_call 5; go_loud (have hq := G2.out; (with_reducible refine (classed_any _ hq w9.1 w9.2).mono ?_); clear hq; rintro e w' ⟨rfl, rfl⟩))
    | (go_at_call 6; go_loud (have hq := G2.out; (with_reducible refine (knows_any _ hq).mono ?_); clear hq; rintro e w3' ⟨rfl, hb3⟩)))
  go_ret
  exact ⟨rfl, bel_trans BB.out (bel_trans hb1 (bel_trans hb2 hb3))⟩

/-! ### What is laid -/
theorem gClasses : Tryd.prog.globalNamed "culvert/cookie.classes" = some 1 := by kernel_rfl
theorem gSizes : Tryd.prog.globalNamed "culvert/culverttop.sizes17" = some 0 := by kernel_rfl
theorem tClasses : (Tryd.prog.globals[1]?).map (·.type) = some 41 := by kernel_rfl
theorem tSizes : (Tryd.prog.globals[0]?).map (·.type) = some 41 := by kernel_rfl
theorem c24 : Tryd.prog.cellsOf 24 = 1 := by kernel_rfl

theorem row_cells {W : World} {n : String} {g : Nat} {cs : Array Value} {fuel : Nat} {p : List MemPlace} (hg : Tryd.prog.globalNamed n = some g) (hv : W.var? Tryd.prog n = some cs)
    (hd : DataW.trod (fun _ => ()) Tryd.prog W 0 (fun _ => true) false fuel 41 cs.toList = some (Rows.laid_culvert_cookie_classes, p)) : ∀ k : Nat, k < 8 → W.cell? ⟨g, k, none⟩ = some (.int .u16 (clsN k)) := by
  obtain ⟨xs, m, rfl, hx, hlen, hn, hel⟩ := DataW.trod_array Tryd.underlying41 hd
  simp only [Prod.mk.injEq, Rows.laid_culvert_cookie_classes, DataW.agg.injEq] at hx
  obtain ⟨hx, _⟩ := hx
  intro k hk
  rw [World.var?_cell hg hv k]
  have h1 := hel k hk
  rw [c24, Nat.mul_one] at h1
  have hxk : xs[k]? = some (xs[k]'(by omega)) := List.getElem?_eq_getElem (by omega)
  rw [hxk] at h1
  obtain ⟨z, e1, e2, _⟩ := DataW.trod_int Tryd.underlying24 h1
  have e3 : (xs.map (·.1))[k]? = some (.lit (.int .u16 z)) := by rw [List.getElem?_map, hxk, e2]; rfl
  rw [← hx] at e3
  have hz : z = clsN k := by
    have hks : k = 0 ∨ k = 1 ∨ k = 2 ∨ k = 3 ∨ k = 4 ∨ k = 5 ∨ k = 6 ∨ k = 7 := by omega
    rcases hks with rfl | rfl | rfl | rfl | rfl | rfl | rfl | rfl <;> simp at e3 <;> subst e3 <;> rfl
  subst hz
  have e4 : (cs.toList.drop k)[0]? = some (.int .u16 (clsN k)) := by
    have := congrArg (fun l => l[0]?) e1
    simpa using this
  simpa using e4

theorem of_laid {W : World} (h : laidMetH Tryd.prog Rows.topCookiesRow.laid W) : Glob W := by
  rw [MakeChecks.laidMetH_plain _ _ _ (by kernel_rfl)] at h
  obtain ⟨ps, ⟨g0, t0, cs0, f0, p0, q0, hg0, ht0, hv0, hd0, ⟨g1, t1, cs1, f1, p1, q1, hg1, ht1, hv1, hd1, _, _⟩, _⟩, _, _⟩ := h
  obtain rfl := Option.some.inj (gClasses.symm.trans hg0)
  obtain rfl := Option.some.inj (gSizes.symm.trans hg1)
  obtain rfl := Option.some.inj (tClasses.symm.trans ht0)
  obtain rfl := Option.some.inj (tSizes.symm.trans ht1)
  exact ⟨row_cells hg1 hv1 hd1, row_cells hg0 hv0 hd0⟩

/-- The door's own heap meets the condition. -/
theorem door_met (os : Os) (args : Array Value) : laidMetH Tryd.prog Rows.topCookiesRow.laid ((World.doorLaid Tryd.prog 400 os).forCall (fun _ _ => 0) ⟨#[], args, []⟩).memory :=
  laidMetH_of_parts3 (fuel := 8) (laidMet_of_run' 8 (by kernel_rfl) (by kernel_rfl)) (by kernel_rfl) (by kernel_rfl)

/-- A tuple that came in. -/
theorem open_tuple {H : Type} {enc : TypeId × Value → H} {W : World} {v : Value} {dt : DataW H} {p : List MemPlace} {base : Nat} {spare : Nat → Bool} {held : Bool} (hv : Value.okWide Tryd.prog W .any base 26 v) (h : DataW.Trod enc Tryd.prog W 0 spare held 26 v dt p) :
    ∃ z0 z1 z2 z3 z4, v = tupV z0 z1 z2 z3 z4 ∧ (Lit.int .u8 z0).wf = true ∧ (Lit.int .u32 z1).wf = true ∧ (Lit.int .u32 z2).wf = true ∧ (Lit.int .u16 z3).wf = true ∧ (Lit.int .u16 z4).wf = true := by
  have c26 : Tryd.prog.cellsOf 26 = 5 := by kernel_rfl
  obtain ⟨cs, rfl, hsz⟩ := okWide_struct Tryd.underlying26 hv
  obtain ⟨l⟩ := cs
  match l, hsz.trans c26 with
  | [x0, x1, x2, x3, x4], _ =>
    obtain ⟨fuel, hf⟩ := h
    obtain ⟨xs, n, _, _, _, hlen, hat⟩ := DataW.trod_struct Tryd.underlying26 hf
    have c5 : Tryd.prog.cellsOf 5 = 1 := by kernel_rfl
    have c23 : Tryd.prog.cellsOf 23 = 1 := by kernel_rfl
    match xs, hlen with
    | [y0, y1, y2, y3, y4], _ =>
      have g0 := hat 0 _ rfl
      have g1 := hat 1 _ rfl
      have g2 := hat 2 _ rfl
      have g3 := hat 3 _ rfl
      have g4 := hat 4 _ rfl
      simp [Value.cells, c5, c23, c24] at g0 g1 g2 g3 g4
      obtain ⟨z0, e0, _, f0⟩ := DataW.trod_int Tryd.underlying5 g0
      obtain ⟨z1, e1, _, f1⟩ := DataW.trod_int Tryd.underlying23 g1
      obtain ⟨z2, e2, _, f2⟩ := DataW.trod_int Tryd.underlying23 g2
      obtain ⟨z3, e3, _, f3⟩ := DataW.trod_int Tryd.underlying24 g3
      obtain ⟨z4, e4, _, f4⟩ := DataW.trod_int Tryd.underlying24 g4
      simp only [List.cons.injEq, and_true] at e0 e1 e2 e3 e4
      subst e0 e1 e2 e3 e4
      exact ⟨z0, z1, z2, z3, z4, rfl, f0, f1, f2, f3, f4⟩

/-! ### THE ROW's STEP -/
set_option maxRecDepth 100000 in
theorem lifted (os : Os) (started : os.Started) (H : Type) (enc : TypeId × Value → H) :
    ReturnsInHanded {} Tryd.checked os 3 .any (fun w args => (Rows.topCookiesSpec.pre enc Tryd.prog Tryd.f3 [] false w args ∧ laidMetH Tryd.prog Rows.topCookiesRow.laid w) ∧ sizedMet enc Tryd.prog Tryd.f3 (OpenSpec.ofChange Rows.topCookiesSpec) false w args)
      (Rows.topCookiesSpec.post enc Tryd.prog Tryd.f3 false true false false) := by
  refine returnsInHanded_of_change_and (C := Tryd.checked) (X := fun w _ => laidMetH Tryd.prog Rows.topCookiesRow.laid w) (fun _ _ _ hh h => h.of_heap hh) own started (by kernel_rfl) Tryd.func3
    (ChangeSpec.witness_shaped (enc := enc) (C := Tryd.checked) (os := os) (X := fun w _ => laidMetH Tryd.prog Rows.topCookiesRow.laid w) false (World.doorLaid Tryd.prog 400 os) #[.int .u64 0, tupV 0 0 0 0 0, .int .u32 0, .int .u64 0, .int .i8 0, .int .i8 0, .bool false, .int .u16 0, .int .u8 0, .int .u16 0] 8 rfl (World.shaped_of_RefB (by kernel_rfl) (by kernel_rfl)) (by kernel_rfl) (by kernel_rfl) (by kernel_rfl) (door_met os _)) ?_
  intro W base args ds gs before hval0 hW _ _ hL _
  have hval : ∀ (j : Nat) t v, Tryd.f3.params[j]? = some t → args[j]? = some v → Value.okWide Tryd.prog W .any base t v := hval0
  have hW' := hW
  obtain ⟨p, q, hA0, hV, rfl, hfz, hnd⟩ := hW
  have hA : DataW.TrodAll enc Tryd.prog W 0 (fun _ => true) true Tryd.f3.params.toList args.toList ds p := hA0
  rw [Tryd.params3] at hA hval
  obtain ⟨v0, vs0, d0, ds0, p0, q0, hargs, rfl, rfl, h0, r0⟩ := trodAll_cons hA
  obtain ⟨v1, vs1, d1, ds1, p1, q1, rfl, rfl, rfl, h1, r1⟩ := trodAll_cons r0
  obtain ⟨v2, vs2, d2, ds2, p2, q2, rfl, rfl, rfl, h2, r2⟩ := trodAll_cons r1
  obtain ⟨v3, vs3, d3, ds3, p3, q3, rfl, rfl, rfl, h3, r3⟩ := trodAll_cons r2
  obtain ⟨v4, vs4, d4, ds4, p4, q4, rfl, rfl, rfl, h4, r4⟩ := trodAll_cons r3
  obtain ⟨v5, vs5, d5, ds5, p5, q5, rfl, rfl, rfl, h5, r5⟩ := trodAll_cons r4
  obtain ⟨v6, vs6, d6, ds6, p6, q6, rfl, rfl, rfl, h6, r6⟩ := trodAll_cons r5
  obtain ⟨v7, vs7, d7, ds7, p7, q7, rfl, rfl, rfl, h7, r7⟩ := trodAll_cons r6
  obtain ⟨v8, vs8, d8, ds8, p8, q8, rfl, rfl, rfl, h8, r8⟩ := trodAll_cons r7
  obtain ⟨v9, vs9, d9, ds9, p9, q9, rfl, rfl, rfl, h9, r9⟩ := trodAll_cons r8
  obtain ⟨rfl, rfl, rfl⟩ := trodAll_nil r9
  obtain rfl : args = #[v0, v1, v2, v3, v4, v5, v6, v7, v8, v9] := by cases args; simp_all
  obtain ⟨rfl, rfl⟩ := trodVars_none hV
  obtain ⟨a0, rfl, rfl, rfl, w0⟩ := open_int Tryd.underlying22 (hval 0 22 v0 rfl rfl) h0
  have k1 := h1
  have lt1 : ∀ x ∈ p1, x.block < W.heap.size := by obtain ⟨m, hm⟩ := k1; exact DataW.trod_lt m _ _ _ hm
  obtain ⟨z0, z1, z2, z3, z4, rfl, f0, f1, f2, f3, f4⟩ := open_tuple (hval 1 26 v1 rfl rfl) h1
  obtain ⟨a2, rfl, rfl, rfl, w2⟩ := open_int Tryd.underlying23 (hval 2 23 v2 rfl rfl) h2
  obtain ⟨a3, rfl, rfl, rfl, w3⟩ := open_int Tryd.underlying22 (hval 3 22 v3 rfl rfl) h3
  obtain ⟨a4, rfl, rfl, rfl, w4⟩ := open_int Tryd.underlying27 (hval 4 27 v4 rfl rfl) h4
  obtain ⟨a5, rfl, rfl, rfl, w5⟩ := open_int Tryd.underlying27 (hval 5 27 v5 rfl rfl) h5
  obtain ⟨a6, rfl, rfl, rfl⟩ := open_bool Tryd.underlying4 (hval 6 4 v6 rfl rfl) h6
  obtain ⟨a7, rfl, rfl, rfl, w7⟩ := open_int Tryd.underlying24 (hval 7 24 v7 rfl rfl) h7
  obtain ⟨a8, rfl, rfl, rfl, w8⟩ := open_int Tryd.underlying5 (hval 8 5 v8 rfl rfl) h8
  obtain ⟨a9, rfl, rfl, rfl, w9⟩ := open_int Tryd.underlying24 (hval 9 24 v9 rfl rfl) h9
  clear hA0 hval0
  have hgl := of_laid hL
  have ht : TupIn z0 z1 z2 z3 z4 a2 := by
    simp only [wf_u8, wf_u16, wf_u32] at f0 f1 f2 f3 f4
    have g := w2
    simp only [wf_u32] at g
    exact ⟨f0.1, f0.2, f1.1, f1.2, f2.1, f2.2, f3.1, f3.2, f4.1, f4.2, g.1, g.2⟩
  refine (walk a0 z0 z1 z2 z3 z4 a2 a3 a4 a5 a7 a8 a9 a6 W hgl ht w0 w3 w4 w5 w7 w8 w9).mono fun e W' ⟨he, bel⟩ => ?_
  subst he
  exact ⟨_, rfl, _, _, _, [], _, [], hW', trodAll_mk1 (shut_bool Tryd.underlying4 _), (trodAll_cons_mk (shut_int Tryd.underlying22 w0) (trodAll_cons_mk (Below.trod laidOut (by kernel_rfl) (of_decide_eq_true (by kernel_rfl)) k1 bel lt1) (trodAll_cons_mk (shut_int Tryd.underlying23 w2) (trodAll_cons_mk (shut_int Tryd.underlying22 w3) (trodAll_cons_mk (shut_int Tryd.underlying27 w4) (trodAll_cons_mk (shut_int Tryd.underlying27 w5) (trodAll_cons_mk (shut_bool Tryd.underlying4 _) (trodAll_cons_mk (shut_int Tryd.underlying24 w7) (trodAll_cons_mk (shut_int Tryd.underlying5 w8) (trodAll_cons_mk (shut_int Tryd.underlying24 w9) trodAll_mk0)))))))))), rfl, bel.frame _, fun h => by cases h⟩

theorem over : Rows.topCookiesRow.holds Tryd.pinned (OpenSpec.ofChange Rows.topCookiesSpec) :=
  OpenClaim.holds_of_wide 3 Tryd.f3 rfl rfl rfl rfl rfl rfl rfl ⟨rfl, rfl, rfl, rfl, rfl⟩ rfl rfl rfl rfl rfl (by kernel_rfl) Tryd.func3 (by kernel_rfl)
    (of_decide_eq_true (by kernel_rfl)) (by unfold Func.isWrapper; first | (rw [if_pos (by decide +kernel)]; kernel_rfl) | (rw [if_neg (by decide +kernel)]; exact ⟨rfl, rfl⟩))
    (fun os started H enc _ => lifted os started H enc)


/-- ████ THE CARD ████ -/
theorem proved : Rows.TopCookiesCardSaid :=
  Claim7.holds_tied_plain_at .later [] [.widerDeep, .data] true (true, "c3393eeba6ffffca2537317fd61abbf3ee896f34840ec4e7cee9d6a17df11966") false
    over (fun _ h => by cases h) (by kernel_rfl) (fun _ h => by cases h) topCookies_row_tie rfl ⟨rfl, rfl⟩ (by kernel_rfl) rfl
    (fun f fn hf hfn => by
      obtain rfl : f = 3 := Option.some.inj ((show Tryd.prog.funcNamed "culvert/culverttop.TopCookies" = some 3 by kernel_rfl).symm.trans hf) |>.symm
      obtain rfl : fn = Tryd.f3 := (Option.some.inj (Tryd.func3.symm.trans hfn)).symm
      exact ⟨by kernel_rfl, fun j t ht => by
        rw [Tryd.params3] at ht
        have hm : t ∈ [22, 26, 23, 22, 27, 27, 4, 24, 5, 24] := by simpa using Array.mem_of_getElem? ht
        have hall : ([22, 26, 23, 22, 27, 27, 4, 24, 5, 24].all fun u => !Tryd.prog.wantsStandIn u) = true := by kernel_rfl
        exact (show Tryd.prog.wantsStandIn t = false by simpa using List.all_eq_true.1 hall t hm)⟩)
    (by kernel_rfl)
#print axioms proved
end Go.Proofs.YtnpmelonkcgpgacDoor.topCookies

