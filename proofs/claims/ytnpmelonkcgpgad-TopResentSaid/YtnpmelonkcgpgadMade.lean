/- The sender's buffer: made, copied. -/
import Derived.Test.YtnpmelonkcgpgadTick
namespace Go.Proofs.Ytnpmelonkcgpgad
open Go.RowKit
set_option linter.unusedVariables false
set_option linter.unusedSimpArgs false

section
variable {w w' : World} {b : Nat} {q : BufS}
theorem new_bad (w : World) (at_ win rto tries : Int) (hr : 0 ≤ rto) (hb : rto < 1 ∨ 1073741824 < rto ∨ tries < 1 ∨ 10 < tries ∨ 1073741824 < win) :
    Calls Try.prog 6 #[.int .u32 at_, .int .u32 win, .int .u64 rto, .int .i64 tries] w fun e w' => e = .returned (.tuple #[.pointer none, .int .i64 1]) ∧ w = w' := by
  have hc : rto < 1 ∨ (1 ≤ rto ∧ 1073741824 < rto) ∨ (1 ≤ rto ∧ rto ≤ 1073741824 ∧ tries < 1) ∨ (1 ≤ rto ∧ rto ≤ 1073741824 ∧ 1 ≤ tries ∧ 10 < tries) ∨ (1 ≤ rto ∧ rto ≤ 1073741824 ∧ 1 ≤ tries ∧ tries ≤ 10 ∧ 1073741824 < win) := by omega
  clear hb
  rcases hc with h1 | ⟨h1, h2⟩ | ⟨h1, h2, h3⟩ | ⟨h1, h2, h3, h4⟩ | ⟨h1, h2, h3, h4, h5⟩
  all_goals
    go_enter Try.func6, Try.ntmps6
    go_wp2
    go_ret2
    exact ⟨rfl, rfl⟩

theorem new_ok (w : World) (at_ win rto tries : Int) (h1 : 1 ≤ rto) (h2 : rto ≤ 1073741824) (h3 : 1 ≤ tries) (h4 : tries ≤ 10) (h5 : win ≤ 1073741824) :
    Calls Try.prog 6 #[.int .u32 at_, .int .u32 win, .int .u64 rto, .int .i64 tries] w fun e w' => e = .returned (.tuple #[.pointer (some ⟨w.heap.size, 0, none⟩), .int .i64 0]) ∧ BufAt w' w.heap.size ⟨[], none, 0, at_, 0, win, rto, tries, rto, 0, 0⟩ ∧ w'.heap.size = w.heap.size + 1 ∧ Below w.heap.size w w' := by
  go_enter Try.func6, Try.ntmps6
  go_wp2
  go_ret2
  exact ⟨rfl, ⟨Blk.new w 55 _, Sl.nil _ _, (fun _ h => by cases h), Nat.le_refl _, Nat.zero_le _, (fun _ => ⟨rfl, rfl⟩)⟩, by simp, bel_alloc _⟩

set_option maxHeartbeats 1000000 in
theorem copy_any (w : World) (h : BufAt w b q) (hi : BufIn q) :
    Calls Try.prog 13 #[.pointer (some ⟨b, 0, none⟩)] w fun e w' => e = .returned (.pointer (some ⟨w.heap.size, 0, none⟩)) ∧ (∃ A c, BufAt w' w.heap.size { q with A := A, cap := c }) ∧ Below w.heap.size w w' := by
  obtain ⟨c0, c1, c2, c3, c4, c5, c6, c7, c8⟩ := h.cells
  have N := Lib.hid (none_any w h hi)
  have hbl := h.blk.lt
  have hR := Lib.hid (Blk.new w 55 #[.slice q.A q.data.length q.cap, .int .u32 q.una, .int .i64 q.sent, .int .u32 q.window, .int .u64 q.rto, .int .i64 q.tries, .int .u64 q.wait, .int .i64 q.count, .int .u64 q.alarm])
  have C := Lib.hid (clone_any (w.alloc (.cells #[.slice q.A q.data.length q.cap, .int .u32 q.una, .int .i64 q.sent, .int .u32 q.window, .int .u64 q.rto, .int .i64 q.tries, .int .u64 q.wait, .int .i64 q.count, .int .u64 q.alarm] 55)) q.data q.A q.cap (h.sl.alloc _) hi.l1 h.nil)
  have H := Lib.hid h
  clear h
  go_enter Try.func13, Try.ntmps13
  go_wp2_with (first
    | (go_at_call 15; (with_reducible refine N.out.mono ?_); rintro e w' ⟨rfl, rfl⟩)
    | (go_at_call 16
       go_loud (
        (with_reducible refine C.out.mono ?_)
        rintro e w3 ⟨v, rfl, ho, hb⟩
        have hR3 := hR.out.below hb (by simp)
        have r0 := hR3.cell 0
        have f0 := hR3.frozen 0
        obtain ⟨A', c', rfl, hs', hle, hmx, hown, hnil⟩ := ho.form
        have HF := Lib.hid (And.intro hs' (And.intro hle (And.intro hmx (And.intro hown hnil))))
        have HO := Lib.hid ho
        have HB := Lib.hid hb
        have HR := Lib.hid hR3
        clear ho hb hR3 hs' hle hmx hown hnil)))
  go_ret
  obtain ⟨hs', hle, hmx, hown, hnil⟩ := HF.out
  have ho3 : Only [w.heap.size] w3 (w3.setCell ⟨w.heap.size, 0, none⟩ (.slice A' (bs q.data).length c')) := (Only.refl _ _).setCell (.inl (by simp)) _
  have hblk := HR.out.set_ 0 (.slice A' (bs q.data).length c')
  have hne : ∀ a, A' = some a → a.block ≠ w.heap.size := fun a ha => by have := (hown a ha).1; simp at this; omega
  refine ⟨rfl, ⟨A', c', ⟨by simpa using hblk, ?_, hne, by simpa using hle, hmx, fun hx => ⟨by simpa [bs] using (hnil hx).1, (hnil hx).2⟩⟩⟩, ?_⟩
  · have := sl_only hs' ho3 (fun a ha => by simpa using hne a ha)
    simpa using this
  · exact ((bel_alloc _).trans (HB.out.mono (by simp))).setCell (Nat.le_refl _) _
end
end Go.Proofs.Ytnpmelonkcgpgad

