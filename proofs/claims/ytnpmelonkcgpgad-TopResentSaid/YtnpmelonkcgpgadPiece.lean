/- The sender's pieces. -/
import Derived.Test.YtnpmelonkcgpgadBytes
namespace Go.Proofs.Ytnpmelonkcgpgad
open Go.RowKit
set_option linter.unusedVariables false
set_option linter.unusedSimpArgs false
attribute [local go_sem ↓] Go.wp_at_zero Go.wp_at_succ

section
variable {w w' : World} {b : Nat} {q : BufS}
set_option maxHeartbeats 1000000 in
theorem piece_any (w : World) (h : BufAt w b q) (hi : BufIn q) (fr to : Nat) (h0 : fr < to) (h1 : to ≤ q.data.length) :
    Calls Try.prog 20 #[.pointer (some ⟨b, 0, none⟩), .int .i64 fr, .int .i64 to] w fun e w' => ∃ v, e = .returned (.agg #[.int .u32 ((q.una + fr) % 4294967296), v]) ∧ Ow w' w.heap.size 5 v (bs ((q.data.take to).drop fr)) ∧ Below w.heap.size w w' := by
  obtain ⟨c0, c1, c2, c3, c4, c5, c6, c7, c8⟩ := h.cells
  have hcap := h.cap
  have hc1 := h.cap1
  unfold maxLen at hc1
  have l1 := hi.l1
  obtain ⟨bb, oo, hA, hcell⟩ := h.sl (by simp; omega)
  have hS := h.sl.cut fr q.cap to (by omega) (by simp; omega)
  have hne := h.ne
  have hcf : ¬ q.cap = fr := by omega
  rw [if_neg (by omega), hA] at hS
  rw [hA] at c0 hne
  have hbb : ¬ bb = b := hne _ rfl
  have i1 : (fr : Int) ≤ (to : Int) := by omega
  have i2 : (to : Int) ≤ (q.cap : Int) := by omega
  have i3 : fr ≤ to := by omega
  have i4 : to ≤ q.cap := by omega
  have i5 : (0 : Int) ≤ (fr : Int) := by omega
  have i6 : (0 : Int) ≤ (to : Int) := by omega
  have i7 : (fr : Int) ≤ (q.cap : Int) := by omega
  have hDl : ((q.data.take to).drop fr).length = to - fr := by simp; omega
  have hSb : Sl w (some ⟨bb, oo + fr, none⟩) (bs ((q.data.take to).drop fr)) := by
    have e : ((bs q.data).take to).drop fr = bs ((q.data.take to).drop fr) := by simp [bs, List.map_drop, List.map_take]
    have e2 : (⟨bb, oo, none⟩ : Addr).add fr = ⟨bb, oo + fr, none⟩ := by unfold Addr.add; split <;> simp_all
    rw [← e]
    rw [Option.map_some, e2] at hS
    exact hS
  have HC : Hid (∀ w' : World, Below w.heap.size w w' → Calls Try.prog 16 #[.slice (some ⟨bb, oo + fr, none⟩) (to - fr) (q.cap - fr)] w' fun e w'' => ∃ v, e = .returned v ∧ Ow w'' w'.heap.size 5 v (bs ((q.data.take to).drop fr)) ∧ Below w'.heap.size w' w'') := Lib.hid (fun w' hb => by
    have := clone_any w' ((q.data.take to).drop fr) (some ⟨bb, oo + fr, none⟩) (q.cap - fr) (hSb.below hb) (by rw [hDl]; omega) (fun h => by cases h)
    rwa [hDl] at this)
  clear hDl hSb
  have H := Lib.hid h
  clear hcell hS hne
  have hbl := h.blk.lt
  clear c2 c3 c4 c5 c6 c7 c8
  generalize hn : q.data.length = n at *
  go_enter Try.func20, Try.ntmps20
  go_wp2_with (fail)
  go_region_held3 (fun w' => w'.cell? ⟨b, 0, none⟩ = some (.slice (some ⟨bb, oo, none⟩) n q.cap) ∧ w'.cell? ⟨b, 1, none⟩ = some (.int .u32 q.una)) (first | exact K0 | exact K1 _ _ | go_keep) (first
    | (go_at_call 27; (with_reducible refine (add_any _ _ _).mono ?_); rintro e w1 ⟨rfl, rfl⟩)
    | (go_at_call 16
       go_loud (
        (with_reducible refine (HC.out _ ((bel_alloc _).drew)).mono ?_)
        rintro e w3 ⟨v, rfl, ho, hb⟩
        have hb' : Below (w.heap.size + 1) (w.alloc (.cells #[.int .u32 0, .slice none 0 0] 42)) w3 := ⟨hb.os, hb.tape, hb.output, by have := hb.size; simpa using this, fun k hk => hb.block k (by simpa using hk)⟩
        obtain ⟨A', c', rfl, hs', hf'⟩ := ho.form
        have g0 := (hb'.cell (p := ⟨b, 0, none⟩) (by show b < _; omega)).trans (cell_alloc _ c0)
        have g1 := (hb'.cell (p := ⟨b, 1, none⟩) (by show b < _; omega)).trans (cell_alloc _ c1)
        have r0 : w3.cell? ⟨w.heap.size, 0, none⟩ = some (.int .u32 0) := (hb'.cell (by simp)).trans (by simp)
        have r1 : w3.cell? ⟨w.heap.size, 1, none⟩ = some (.slice none 0 0) := (hb'.cell (by simp)).trans (by simp)
        have f0 : w3.frozen? ⟨w.heap.size, 0, none⟩ = false := (hb'.frozen (by simp)).trans (by simp)
        have f1 : w3.frozen? ⟨w.heap.size, 1, none⟩ = false := (hb'.frozen (by simp)).trans (by simp)
        have HO := Lib.hid ho
        have HB := Lib.hid hb'
        have K0 : w3.cell? ⟨b, 0, none⟩ = some (.slice (some ⟨bb, oo, none⟩) n q.cap) ∧ w3.cell? ⟨b, 1, none⟩ = some (.int .u32 q.una) := ⟨g0, g1⟩
        have K1 : ∀ u1 u2, ((w3.setCell ⟨w.heap.size, 0, none⟩ u1).setCell ⟨w.heap.size, 1, none⟩ u2).cell? ⟨b, 0, none⟩ = some (.slice (some ⟨bb, oo, none⟩) n q.cap) ∧ ((w3.setCell ⟨w.heap.size, 0, none⟩ u1).setCell ⟨w.heap.size, 1, none⟩ u2).cell? ⟨b, 1, none⟩ = some (.int .u32 q.una) := fun u1 u2 => ⟨cell_far (cell_far g0 (by show ¬ b = w.heap.size; omega)) (by show ¬ b = w.heap.size; omega), cell_far (cell_far g1 (by show ¬ b = w.heap.size; omega)) (by show ¬ b = w.heap.size; omega)⟩
        clear ho hb hb')))
  go_wp2
  refine bodyPost_ret (v := .agg #[.int .u32 ((q.una + fr) % 4294967296), .slice A' (to - fr) c']) (by simp [results, Try.results20, go_sem, r0, r1]) rfl ?_
  have hO := HO.out
  have ht : ((q.data.take to).drop fr).length = to - fr := by simp; omega
  simp only [bs_length, ht] at hO
  exact ⟨_, rfl, ((hO.far (by simp) _).far (by simp) _).low (by simp), (((bel_alloc _).trans (HB.out.mono (by omega))).setCell (Nat.le_refl _) _).setCell (Nat.le_refl _) _⟩
end
end Go.Proofs.Ytnpmelonkcgpgad

