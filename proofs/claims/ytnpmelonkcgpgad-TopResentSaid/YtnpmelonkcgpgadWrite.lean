/- The sender's buffer: bytes are written. What is too much. -/
import Derived.Test.YtnpmelonkcgpgadPiece
import Derived.Test.YtnpmelonkcgpgadLaw
namespace Go.Proofs.Ytnpmelonkcgpgad
open Go.RowKit
set_option linter.unusedVariables false
set_option linter.unusedSimpArgs false

section
variable {w w' : World} {b : Nat} {q : BufS}
theorem write_long (w : World) (h : BufAt w b q) (hi : BufIn q) (A : Option Addr) (n c : Nat) (now : Int) (hl : 16384 < q.data.length + n) (hn : n ≤ 1000000) :
    Calls Try.prog 7 #[.pointer (some ⟨b, 0, none⟩), .slice A n c, .int .u64 now] w fun e w' => e = .returned (.int .i64 3) ∧ w = w' := by
  obtain ⟨c0, c1, c2, c3, c4, c5, c6, c7, c8⟩ := h.cells
  have N := Lib.hid (none_any w h hi)
  have l1 := hi.l1
  clear c1 c2 c3 c4 c5 c6 c7 c8
  generalize q.data.length = m at *
  go_enter Try.func7, Try.ntmps7
  go_wp2_with (go_at_call 15; (with_reducible refine N.out.mono ?_); rintro e w' ⟨rfl, rfl⟩)
  go_ret
  exact ⟨rfl, rfl⟩

theorem BufAt.store_data {w2 : World} {D : List UInt8} {A2 : Option Addr} {c2 : Nat} (hq : BufAt w2 b q) (hs : Sl w2 A2 (bs D)) (hle : D.length ≤ c2) (hmx : c2 ≤ maxLen) (hne : ∀ a, A2 = some a → a.block ≠ b) (hnil : A2 = none → D = [] ∧ c2 = 0) :
    BufAt (w2.setCell ⟨b, 0, none⟩ (.slice A2 D.length c2)) b { q with data := D, A := A2, cap := c2 } ∧ Only [b] w2 (w2.setCell ⟨b, 0, none⟩ (.slice A2 D.length c2)) := by
  have ho : Only [b] w2 (w2.setCell ⟨b, 0, none⟩ (.slice A2 D.length c2)) := (Only.refl _ _).setCell (.inl (by simp)) _
  exact ⟨⟨hq.blk.set_ 0 _, sl_only hs ho (fun a ha => by simpa using hne a ha), hne, hle, hmx, hnil⟩, ho⟩
end
end Go.Proofs.Ytnpmelonkcgpgad

