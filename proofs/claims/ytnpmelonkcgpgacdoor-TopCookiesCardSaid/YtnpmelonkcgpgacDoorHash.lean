/- Cookies: the hash, by the program and by hand; both are one. -/
import Derived.Test.YtnpmelonkcgpgacDoorMix
namespace Go.Proofs.YtnpmelonkcgpgacDoor
open Go.RowKit
set_option linter.unusedVariables false
set_option linter.unusedSimpArgs false

/-- A tuple's numbers are in their bounds; the client's too. -/
structure TupIn (p s d sp dp c : Int) : Prop where
  p0 : 0 ≤ p
  p1 : p < 256
  s0 : 0 ≤ s
  s1 : s < 4294967296
  d0 : 0 ≤ d
  d1 : d < 4294967296
  a0 : 0 ≤ sp
  a1 : sp < 65536
  b0 : 0 ≤ dp
  b1 : dp < 65536
  c0 : 0 ≤ c
  c1 : c < 4294967296

abbrev tupV (p s d sp dp : Int) : Value := .agg #[.int .u8 p, .int .u32 s, .int .u32 d, .int .u16 sp, .int .u16 dp]
def hashL (p s d sp dp c ep : Int) : List Int := [p, bits BinOp.or IntKind.u64 (s * 4294967296) d, bits BinOp.or IntKind.u64 (sp * 65536) dp, c, ep]
def hashI (key p s d sp dp c ep : Int) : Int := foldI key (hashL p s d sp dp c ep)

section
variable {key p s s0' d sp dp c ep : Int}
theorem row_at (w : World) (cs : List Value) (t : TypeId) (fr : Nat × Nat) (n : Nat) (hn : n = w.heap.size) : Sl (w.alloc (.cells cs.toArray t fr)) (some ⟨n, 0, none⟩) cs := by
  subst hn
  exact fun _ => ⟨_, 0, rfl, fun j v hj => by rw [World.cell?_alloc_mark, Nat.zero_add]; simpa using hj⟩

set_option maxHeartbeats 400000 in
theorem hash_any (w : World) (ht : TupIn p s d sp dp c) : Calls Tryd.prog 8 #[.int .u64 key, tupV p s d sp dp, .int .u32 c, .int .u64 ep] w fun e w' => e = .returned (.int .u64 (hashI key p s d sp dp c ep)) ∧ Below w.heap.size w w' := by
  obtain ⟨p0, p1, s0, s1, d0, d1, a0, a1, b0, b1, c0, c1⟩ := ht
  have M := fun (w' : World) (n : Nat) (h : Sl w' (some ⟨n, 0, none⟩) ((hashL p s d sp dp c ep).map (Value.int .u64))) => mixed_any key (some ⟨n, 0, none⟩) (hashL p s d sp dp c ep) w' h (by simp [hashL])
  have M' := Lib.hid M
  clear M
  go_enter Tryd.func8, Tryd.ntmps8
  go_wp2_with (go_at_call 15
               go_loud (
                refine (M'.out _ _ (row_at _ _ _ _ _ ?_)).mono ?_
                rotate_left
                rintro e w1 ⟨rfl, rfl⟩))
  · go_ret
    exact ⟨rfl, bel_trans (bel_alloc _) (bel_alloc _)⟩
  · simp

set_option maxHeartbeats 400000 in
theorem hash17_any (w : World) (ht : TupIn p s0' d sp dp c) : Calls Tryd.prog 9 #[.int .u64 key, tupV p s0' d sp dp, .int .u32 c, .int .u64 ep] w fun e w' => e = .returned (.int .u64 (hashI key p s0' d sp dp c ep)) ∧ Below w.heap.size w w' := by
  obtain ⟨p0, p1, s0, s1, d0, d1, a0, a1, b0, b1, c0, c1⟩ := ht
  have i0 : ∀ w, (Instr.index 48 (.agg #[.int .u64 p, .int .u64 (bits BinOp.or IntKind.u64 (s0' * 4294967296) d), .int .u64 (bits BinOp.or IntKind.u64 (sp * 65536) dp), .int .u64 c, .int .u64 ep]) (.int .i64 0)).run Tryd.prog w = .ok (.int .u64 p) w := fun _ => by kernel_rfl
  have i1 : ∀ w, (Instr.index 48 (.agg #[.int .u64 p, .int .u64 (bits BinOp.or IntKind.u64 (s0' * 4294967296) d), .int .u64 (bits BinOp.or IntKind.u64 (sp * 65536) dp), .int .u64 c, .int .u64 ep]) (.int .i64 1)).run Tryd.prog w = .ok (.int .u64 (bits BinOp.or IntKind.u64 (s0' * 4294967296) d)) w := fun _ => by kernel_rfl
  have i2 : ∀ w, (Instr.index 48 (.agg #[.int .u64 p, .int .u64 (bits BinOp.or IntKind.u64 (s0' * 4294967296) d), .int .u64 (bits BinOp.or IntKind.u64 (sp * 65536) dp), .int .u64 c, .int .u64 ep]) (.int .i64 2)).run Tryd.prog w = .ok (.int .u64 (bits BinOp.or IntKind.u64 (sp * 65536) dp)) w := fun _ => by kernel_rfl
  have i3 : ∀ w, (Instr.index 48 (.agg #[.int .u64 p, .int .u64 (bits BinOp.or IntKind.u64 (s0' * 4294967296) d), .int .u64 (bits BinOp.or IntKind.u64 (sp * 65536) dp), .int .u64 c, .int .u64 ep]) (.int .i64 3)).run Tryd.prog w = .ok (.int .u64 c) w := fun _ => by kernel_rfl
  have i4 : ∀ w, (Instr.index 48 (.agg #[.int .u64 p, .int .u64 (bits BinOp.or IntKind.u64 (s0' * 4294967296) d), .int .u64 (bits BinOp.or IntKind.u64 (sp * 65536) dp), .int .u64 c, .int .u64 ep]) (.int .i64 4)).run Tryd.prog w = .ok (.int .u64 ep) w := fun _ => by kernel_rfl
  go_enter Tryd.func9, Tryd.ntmps9
  go_wp2_with (fail)
  go_loopw [9, 36] (fun s t wr => ∃ k : Nat, k ≤ 5 ∧ s = .int .u64 (foldI key ((hashL p s0' d sp dp c ep).take k)) ∧ t = .int .i64 k ∧ wr = w.alloc (.cells #[.int .u8 p, .int .u32 s0', .int .u32 d, .int .u16 sp, .int .u16 dp] 26)) (fun _ t _ => 5 - (intOf t).toNat)
  case atStart => exact ⟨0, by omega, rfl, rfl, rfl⟩
  case round =>
    obtain ⟨k, hk, rfl, rfl, rfl⟩ := hrel
    have hks : k = 0 ∨ k = 1 ∨ k = 2 ∨ k = 3 ∨ k = 4 ∨ k = 5 := by omega
    rcases hks with rfl | rfl | rfl | rfl | rfl | rfl
    case inr.inr.inr.inr.inr =>
      go_wp2
      go_ret
      exact ⟨rfl, bel_alloc _⟩
    all_goals
      generalize hr : foldI key ((hashL p s0' d sp dp c ep).take _) = r
      have Hr := Lib.hid hr
      clear hr
      go_wp2_with (go_at_call 16; (with_reducible refine (mix_any _ _).mono ?_); rintro e w1 ⟨rfl, rfl⟩)
      go_roundw
      case rel =>
        first
          | exact ⟨1, by omega, by rw [foldI_take _ _ 0 (by simp [hashL]), Hr.out]; rfl, by rfl, trivial⟩
          | exact ⟨2, by omega, by rw [foldI_take _ _ 1 (by simp [hashL]), Hr.out]; rfl, by rfl, trivial⟩
          | exact ⟨3, by omega, by rw [foldI_take _ _ 2 (by simp [hashL]), Hr.out]; rfl, by rfl, trivial⟩
          | exact ⟨4, by omega, by rw [foldI_take _ _ 3 (by simp [hashL]), Hr.out]; rfl, by rfl, trivial⟩
          | exact ⟨5, by omega, by rw [foldI_take _ _ 4 (by simp [hashL]), Hr.out]; rfl, by rfl, trivial⟩
      case measure => simp [intOf]
end
end Go.Proofs.YtnpmelonkcgpgacDoor

