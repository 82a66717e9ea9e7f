/- The noter begins anew. -/
import Derived.Test.YtnpmelonkcgpgadTold
namespace Go.Proofs.Ytnpmelonkcgpgad
open Go.RowKit
set_option linter.unusedVariables false
set_option linter.unusedSimpArgs false
attribute [local go_sem ↓] Go.wp_at_zero Go.wp_at_succ

section
variable {w w' : World} {b xb : Nat} {q : BufS} {x : SentS} {first : Int}
theorem SentAt.drew (h : SentAt w b x) : SentAt w.drew b x := h
/-- The noter begins anew. -/
def SentS.anew (x : SentS) (now : Int) : SentS := { x with wait := x.rto, count := 0, set_ := decide (x.una < x.fin), alarm := if x.una < x.fin then now + x.rto else 0 }

set_option maxHeartbeats 4000000 in
theorem sentanew_any (w : World) (now : Int) (h : SentAt w b x) (r0 : 0 ≤ x.rto) (r1 : x.rto ≤ 1073741824) (n0 : 0 ≤ now) (n1 : now ≤ 1099511627776) :
    Calls Try.prog 12 #[.pointer (some ⟨b, 0, none⟩), .int .u64 now] w fun e w' => e = .returned (.tuple #[]) ∧ SentAt w' b (x.anew now) ∧ Only [b] w w' := by
  obtain ⟨t, hd⟩ : ∃ t, decide (x.una < x.fin) = t := ⟨_, rfl⟩
  obtain ⟨d0, d1, d2, d3, d4, d5, d6, d7, d8, d9⟩ := h.cells
  have f4 := Blk.frozen h 4
  have f6 := Blk.frozen h 6
  have f8 := Blk.frozen h 8
  have f9 := Blk.frozen h 9
  have e1 : IntKind.u64.wrap (now + x.rto) = now + x.rto := IntWalk.u64_in _ (by omega)
  have b1 := Blk.set_ h 4 (.int .u64 x.rto)
  have b2 := b1.set_ 8 (.int .i64 0)
  have b3 := b2.set_ 9 (.bool t)
  have b4 := b3.set_ 6 (.int .u64 0)
  have b5 := b4.set_ 6 (.int .u64 (now + x.rto))
  have s1 : (w.setCell ⟨b, 4, none⟩ (.int .u64 x.rto)).cell? ⟨b, 5, none⟩ = some (.int .u64 x.rto) ∧ (w.setCell ⟨b, 4, none⟩ (.int .u64 x.rto)).cell? ⟨b, 2, none⟩ = some (.int .i64 x.fin) ∧ (w.setCell ⟨b, 4, none⟩ (.int .u64 x.rto)).cell? ⟨b, 0, none⟩ = some (.int .i64 x.una) := ⟨b1.cell 5, b1.cell 2, b1.cell 0⟩
  have s2 := (show _ ∧ _ ∧ _ from ⟨b2.cell 5, b2.cell 2, b2.cell 0⟩)
  have s3 := (show _ ∧ _ ∧ _ from ⟨b3.cell 5, b3.cell 2, b3.cell 0⟩)
  have s4 := (show _ ∧ _ ∧ _ from ⟨b4.cell 5, b4.cell 2, b4.cell 0⟩)
  have t1 : (w.setCell ⟨b, 4, none⟩ (.int .u64 x.rto)).cell? ⟨b, 8, none⟩ = some (.int .i64 x.count) := b1.cell 8
  have t2 : ((w.setCell ⟨b, 4, none⟩ (.int .u64 x.rto)).setCell ⟨b, 8, none⟩ (.int .i64 0)).cell? ⟨b, 9, none⟩ = some (.bool x.set_) := b2.cell 9
  have t3 : (((w.setCell ⟨b, 4, none⟩ (.int .u64 x.rto)).setCell ⟨b, 8, none⟩ (.int .i64 0)).setCell ⟨b, 9, none⟩ (.bool t)).cell? ⟨b, 6, none⟩ = some (.int .u64 x.alarm) := b3.cell 6
  have u1 := b1.frozen 8
  have u2 := b2.frozen 9
  have u3 := b3.frozen 6
  have u4 := b4.frozen 6
  have v5 : ((((w.setCell ⟨b, 4, none⟩ (.int .u64 x.rto)).setCell ⟨b, 8, none⟩ (.int .i64 0)).setCell ⟨b, 9, none⟩ (.bool t)).setCell ⟨b, 6, none⟩ (.int .u64 0)).cell? ⟨b, 9, none⟩ = some (.bool t) := b4.cell 9
  have v6 : ((((w.setCell ⟨b, 4, none⟩ (.int .u64 x.rto)).setCell ⟨b, 8, none⟩ (.int .i64 0)).setCell ⟨b, 9, none⟩ (.bool t)).setCell ⟨b, 6, none⟩ (.int .u64 0)).cell? ⟨b, 5, none⟩ = some (.int .u64 x.rto) := b4.cell 5
  have v7 : ((((w.setCell ⟨b, 4, none⟩ (.int .u64 x.rto)).setCell ⟨b, 8, none⟩ (.int .i64 0)).setCell ⟨b, 9, none⟩ (.bool t)).setCell ⟨b, 6, none⟩ (.int .u64 0)).cell? ⟨b, 6, none⟩ = some (.int .u64 0) := b4.cell 6
  have H4 : Hid (SentAt ((((w.setCell ⟨b, 4, none⟩ (.int .u64 x.rto)).setCell ⟨b, 8, none⟩ (.int .i64 0)).setCell ⟨b, 9, none⟩ (.bool t)).setCell ⟨b, 6, none⟩ (.int .u64 0)) b ⟨x.una, x.nxt, x.fin, x.window, x.rto, x.rto, 0, x.tries, 0, t⟩) := Lib.hid (by unfold SentAt; simpa using b4)
  have H5 : Hid (SentAt (((((w.setCell ⟨b, 4, none⟩ (.int .u64 x.rto)).setCell ⟨b, 8, none⟩ (.int .i64 0)).setCell ⟨b, 9, none⟩ (.bool t)).setCell ⟨b, 6, none⟩ (.int .u64 0)).setCell ⟨b, 6, none⟩ (.int .u64 (now + x.rto))) b ⟨x.una, x.nxt, x.fin, x.window, x.rto, x.rto, now + x.rto, x.tries, 0, t⟩) := Lib.hid (by unfold SentAt; simpa using b5)
  have ho : Only [b] w ((((w.setCell ⟨b, 4, none⟩ (.int .u64 x.rto)).setCell ⟨b, 8, none⟩ (.int .i64 0)).setCell ⟨b, 9, none⟩ (.bool t)).setCell ⟨b, 6, none⟩ (.int .u64 0)) :=
    ((((Only.refl _ _).setCell (.inl (by simp)) _).setCell (.inl (by simp)) _).setCell (.inl (by simp)) _).setCell (.inl (by simp)) _
  have HO := Lib.hid ho
  unfold SentS.anew
  rw [hd]
  clear h b1 b2 b3 b4 b5 d1 d3 d7 ho
  cases t
  · have hlt : ¬ x.una < x.fin := of_decide_eq_false hd
    rw [if_neg hlt]
    go_enter Try.func12, Try.ntmps12
    go_wp2_with (fail)
    go_region_held3 (fun w' => w'.cell? ⟨b, 5, none⟩ = some (.int .u64 x.rto) ∧ w'.cell? ⟨b, 2, none⟩ = some (.int .i64 x.fin) ∧ w'.cell? ⟨b, 0, none⟩ = some (.int .i64 x.una)) (first | exact s1 | exact s2 | exact s3 | exact s4 | go_keep) (fail)
    go_wp2
    go_end0
    exact ⟨rfl, SentAt.drew H4.out, HO.out.drew⟩
  · have hlt : x.una < x.fin := of_decide_eq_true hd
    rw [if_pos hlt]
    go_enter Try.func12, Try.ntmps12
    go_wp2_with (fail)
    go_region_held3 (fun w' => w'.cell? ⟨b, 5, none⟩ = some (.int .u64 x.rto) ∧ w'.cell? ⟨b, 2, none⟩ = some (.int .i64 x.fin) ∧ w'.cell? ⟨b, 0, none⟩ = some (.int .i64 x.una)) (first | exact s1 | exact s2 | exact s3 | exact s4 | go_keep) (fail)
    go_wp2
    go_end0
    exact ⟨rfl, SentAt.drew H5.out, (HO.out.setCell (.inl (by simp)) _).drew⟩
end
end Go.Proofs.Ytnpmelonkcgpgad

