/- resent19: bytes are written -/
import Derived.Test.YtnpmelonkcgpgadRes0
import Derived.Lib.ConvBytes
namespace Go.Proofs.Ytnpmelonkcgpgad
open Go.RowKit
set_option linter.unusedVariables false
set_option linter.unusedSimpArgs false
attribute [local go_sem ↓] Go.wp_at_zero Go.wp_at_succ

section
variable {w wr : World} {pb xb bb c n i : Nat} {A : Option Addr} {q : BufS} {x : SentS} {first told now now0 mss k6 kd mn pl tk : Int} {mayM : Bool}

theorem conv_bytes (w : World) (d : List UInt8) : ∃ A c w', (convert 9 35 (.string ⟨d.toArray⟩)).run Try.prog w = .ok (.slice A d.length c) w' ∧ Sl w' A (bs d) ∧ Below w.heap.size w w' := by
  have h := Lib.run_convert_string_bytes (P := Try.prog) w 9 35 5 ⟨d.toArray⟩ Try.underlying9 Try.underlying35 Try.underlying5
  have hsz : (⟨d.toArray⟩ : ByteArray).size = d.length := by simp [ByteArray.size]
  rw [hsz] at h
  refine ⟨_, _, _, h, fun _ => ⟨w.heap.size, 0, rfl, fun j v hj => ?_⟩, ⟨rfl, rfl, rfl, by rw [Lib.bytesWorld_size]; omega, fun k hk => Lib.bytesWorld_at_old w 5 _ k hk⟩⟩
  have hjl : j < d.length := by have := (List.getElem?_eq_some_iff.1 hj).1; simpa using this
  rw [Nat.zero_add, Lib.bytesWorld_cell w 5 _ j (by rw [hsz]; exact hjl), ← hj]
  simp [bs, List.getD, List.getElem?_eq_getElem hjl]

theorem bytes_d (x n : Int) (d : List UInt8) (hd : d = bytesL x n.toNat) (w : World) (h0 : 0 ≤ x) (h1 : 0 ≤ n) (h2 : x + n ≤ 1000000) :
    Calls Try.prog 11 #[.int .i64 x, .int .i64 (x + n)] w fun e w' => e = .returned (.string ⟨d.toArray⟩) ∧ Below w.heap.size w w' := by
  have := bytes_any x (x + n) w h0 (by omega) h2
  rw [show x + n - x = n by omega, ← hd] at this
  exact this

theorem write_all {b : Nat} (w : World) (h : BufAt w b q) (hi : BufIn q) (A : Option Addr) (d : List UInt8) (c : Nat) (now : Int) (hl : q.data.length + d.length ≤ 16384) (hd : Sl w A (bs d)) (n0 : 0 ≤ now) (n1 : now ≤ 1099511627776) :
    Calls Try.prog 7 #[.pointer (some ⟨b, 0, none⟩), .slice A d.length c, .int .u64 now] w fun e w' => ∃ A' c', e = .returned (.int .i64 0) ∧ BufAt w' b (q.write d A' c' now) ∧ Only [b] w w' ∧ ∀ a, A' = some a → w.heap.size ≤ a.block := by
  by_cases h0 : q.data.length = 0
  · by_cases h1 : d.length = 0
    · exact write_none w h hi A d c now hl hd n0 n1 h0 h1
    · exact write_first w h hi A d c now hl hd n0 n1 h0 (by omega)
  · exact write_more w h hi A d c now hl hd n0 n1 h0

end
end Go.Proofs.Ytnpmelonkcgpgad

