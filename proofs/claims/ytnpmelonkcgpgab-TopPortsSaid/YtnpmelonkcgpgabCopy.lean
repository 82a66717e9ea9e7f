/- (*Pool).Copy. -/
import Derived.Test.YtnpmelonkcgpgabPool
namespace Go.Proofs.Ytnpmelonkcgpgab
open Go.RowKit
set_option linter.unusedVariables false
set_option linter.unusedSimpArgs false

attribute [local go_sem ↓] Go.wp_at_zero Go.wp_at_succ
set_option maxHeartbeats 400000 in
theorem copy_any (b bt bu : Nat) (p : PoolS) (w : World) (h : PoolAt w b bt bu p) :
    Calls Try.prog 11 #[.pointer (some ⟨b, 0, none⟩)] w fun e w' => e = .returned (.pointer (some ⟨w.heap.size, 0, none⟩)) ∧ PoolAt w' w.heap.size (w.heap.size + 1) (w.heap.size + 2) p ∧ Below w.heap.size w w' := by
  obtain ⟨c0, c1, c2, c3, c4, c5, _⟩ := h.cells
  have hbl := h.1.lt
  have hne : ¬ b = w.heap.size := by omega
  have htl := h.2.1.lt
  have hul := h.2.2.1.lt
  go_enter Try.func11, Try.ntmps11
  go_wp2_with (first
    | (go_at_call 15; refine (none_any _ _ _ _ _ h).mono ?_; rintro e w' ⟨rfl, rfl⟩))
  have n0 := Blk.new w 54 #[.int .u16 p.low, .int .u16 p.high, .int .u64 p.rest, .map (some bt), .map (some bu), .int .u64 p.now]
  have N0 := Lib.hid n0
  clear n0
  go_region_held3 (fun w' => w'.cell? ⟨b, 3, none⟩ = some (.map (some bt)) ∧ w'.cell? ⟨b, 4, none⟩ = some (.map (some bu))) (first | go_keep | exact ⟨cell_far q5 hne, cell_far q6 hne⟩ | exact ⟨cell_far (cell_far q5 hne) hne, cell_far (cell_far q6 hne) hne⟩) (first
    | (go_at_call 19
       refine (clone_taken bt p.taken _ ((h.2.1.alloc _).drew)).mono ?_
       rintro e w1 ⟨rfl, m1, s1, b1⟩
       have hb1 := (h.1.alloc (.cells #[.int .u16 p.low, .int .u16 p.high, .int .u64 p.rest, .map (some bt), .map (some bu), .int .u64 p.now] 54)).drew.below b1 (by simp; omega)
       have q3 := hb1.cell 3
       have q4 := hb1.cell 4
       have HB1 := Lib.hid hb1
       have N1 := Lib.hid (N0.out.drew.below b1 (by simp))
       have M1 := Lib.hid m1
       have S1 := Lib.hid s1
       clear s1 hb1 m1)
    | (go_at_call 20
       refine (clone_til bu p.til _ (((h.2.2.1.alloc _).drew).below b1 (by simp; omega))).mono ?_
       rintro e w2 ⟨rfl, m2, s2, b2⟩
       have S2 := Lib.hid s2
       have M2 := Lib.hid m2
       have N2 := Lib.hid (N1.out.below b2 (by rw [S1.out]; simp; omega))
       have hb2 := HB1.out.below b2 (by rw [S1.out]; simp; omega)
       have q5 := hb2.cell 3
       have q6 := hb2.cell 4
       have q7 := N2.out.cell 3
       have q8 := N2.out.cell 4
       have q9 := N2.out.frozen 3
       have q10 := N2.out.frozen 4
       clear s2 m2 hb2))
  go_wp2
  go_ret
  have hs1 : w1.heap.size = w.heap.size + 2 := by rw [S1.out]; simp
  have m1 := M1.out
  have m2 := M2.out
  rw [World.size_drew, World.size_alloc] at m1
  rw [hs1] at m2
  refine ⟨rfl, ⟨?_, ?_, ?_, by omega⟩, ?_⟩
  · have := (N2.out.set_ 3 (.map (some (w.heap.size + 1)))).set_ 4 (.map (some w1.heap.size))
    rw [hs1] at this ⊢
    exact this
  · exact ((m1.below b2 (by omega)).setCell (by simp) _).setCell (by simp) _
  · exact (m2.setCell (by simp) _).setCell (by simp) _
  · refine Below.setCell (Below.setCell ?_ (by simp) _) (by simp) _
    have k1 : Below w.heap.size w (w.alloc (.cells #[.int .u16 p.low, .int .u16 p.high, .int .u64 p.rest, .map (some bt), .map (some bu), .int .u64 p.now] 54)).drew := (bel_alloc _).drew
    exact k1.trans ((b1.mono (by simp)).trans (b2.mono (by omega)))
end Go.Proofs.Ytnpmelonkcgpgab
