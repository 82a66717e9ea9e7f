/- Cookies: the mixing of numbers. -/
import Derived.Test.YtnpmelonkcgpgacDoorRows
import Derived.Test.YtnpmelonkcgpgacDoorBase
import Derived.WalkKit
import Derived.Deep.QuietTactic
import Derived.Lib.Hide
import Derived.Lib.MinMax
import Derived.OpenShut
namespace Go.Proofs.YtnpmelonkcgpgacDoor
open Go.RowKit
set_option linter.unusedVariables false
set_option linter.unusedSimpArgs false

def mix1 (x : Int) : Int := IntKind.u64.wrap (bits BinOp.xor IntKind.u64 x (x / 1073741824) * 13787848793156543929)
def mix2 (x : Int) : Int := IntKind.u64.wrap (bits BinOp.xor IntKind.u64 x (x / 134217728) * 10723151780598845931)
def mix3 (x : Int) : Int := bits BinOp.xor IntKind.u64 x (x / 2147483648)
/-- A number mixed. -/
def mixI (x : Int) : Int := mix3 (mix2 (mix1 x))
/-- Numbers mixed in, one by one. -/
def foldI (r : Int) : List Int → Int
  | [] => r
  | x :: l => foldI (mixI (bits BinOp.xor IntKind.u64 r x)) l
theorem foldI_snoc : ∀ (l : List Int) (r x : Int), foldI r (l ++ [x]) = mixI (bits BinOp.xor IntKind.u64 (foldI r l) x)
  | [], _, _ => rfl
  | y :: l, r, x => by simp only [List.cons_append, foldI]; exact foldI_snoc l _ x

theorem in_u64 {x : Int} (h : (Lit.int .u64 x).wf = true) : 0 ≤ x ∧ x < 18446744073709551616 := by
  simp [Lit.wf, IntKind.min, IntKind.max, IntKind.signed, IntKind.bits] at h; omega
theorem foldI_in : ∀ (l : List Int) (r : Int), 0 ≤ r ∧ r < 18446744073709551616 → 0 ≤ foldI r l ∧ foldI r l < 18446744073709551616
  | [], _, h => h
  | x :: l, r, h => foldI_in l _ (in_u64 (by unfold mixI mix3; exact wf_bits _ _ _ _))

theorem mix_any (x : Int) (w : World) : Calls Tryd.prog 16 #[.int .u64 x] w fun e w' => e = .returned (.int .u64 (mixI x)) ∧ w = w' := by
  go_enter Tryd.func16, Tryd.ntmps16
  go_wp2
  go_ret
  exact ⟨rfl, rfl⟩
theorem top_any (x : Int) (w : World) : Calls Tryd.prog 14 #[.int .u64 x] w fun e w' => e = .returned (.int .u32 (x / 4294967296 % 4294967296 / 256 * 256)) ∧ w = w' := by
  go_enter Tryd.func14, Tryd.ntmps14
  go_wp2
  go_ret
  exact ⟨rfl, rfl⟩

theorem foldI_take (r : Int) (l : List Int) (k : Nat) (hk : k < l.length) : foldI r (l.take (k + 1)) = mixI (bits BinOp.xor IntKind.u64 (foldI r (l.take k)) l[k]) := by
  rw [← foldI_snoc, List.take_succ_eq_append_getElem hk]

/-- cookie's register. -/
theorem mixed_any (x : Int) (A : Option Addr) (l : List Int) (w : World) (hl : Sl w A (l.map (Value.int .u64))) (hlen : l.length ≤ 1000) :
    Calls Tryd.prog 15 #[.int .u64 x, .slice A l.length l.length] w fun e w' => e = .returned (.int .u64 (foldI x l)) ∧ w = w' := by
  go_enter Tryd.func15, Tryd.ntmps15
  go_wp2_with (fail)
  go_loopw [0, 9] (fun s t wr => ∃ k : Nat, k ≤ l.length ∧ s = .int .u64 (foldI x (l.take k)) ∧ t = .int .i64 k ∧ wr = w) (fun _ t _ => l.length - (intOf t).toNat)
  case atStart => exact ⟨0, by omega, rfl, rfl, rfl⟩
  case round =>
    obtain ⟨k, hk, rfl, rfl, rfl⟩ := hrel
    by_cases hlt : k < l.length
    · obtain ⟨b, o, rfl, hcell⟩ := hl (by simp; omega)
      have hc := hcell k (.int .u64 l[k]) (by simp [hlt])
      have hf := Lib.hid (foldI_take x l k hlt)
      generalize foldI x (l.take k) = r at *
      generalize l[k] = y at *
      clear hcell hl
      go_wp2
      go_roundw
      case rel => exact ⟨k + 1, by omega, by rw [hf.out]; rfl, by go_num, by first | trivial | rfl⟩
      case measure => simp [intOf]; omega
    · have e : k = l.length := by omega
      subst e
      rw [List.take_length]
      go_wp2
      go_ret
      exact ⟨rfl, rfl⟩
end Go.Proofs.YtnpmelonkcgpgacDoor

