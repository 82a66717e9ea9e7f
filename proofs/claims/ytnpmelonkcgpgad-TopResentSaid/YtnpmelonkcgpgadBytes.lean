/- The sender's bytes: cloned, told by places. -/
import Derived.Test.YtnpmelonkcgpgadBuf
import Derived.Test.YtnpmelonkcgpgadApp
import Derived.Lib.SliceRun
namespace Go.Proofs.Ytnpmelonkcgpgad
open Go.RowKit
set_option linter.unusedVariables false
set_option linter.unusedSimpArgs false

theorem byte_info : ∃ i, Try.prog.info? 5 = some i ∧ i.zero = some (.int .u8 0) ∧ i.size = 1 ∧ i.bytes = 1 := by
  have h : (Try.prog.info? 5).map (fun i => (i.zero, i.size, i.bytes)) = some (some (.int .u8 0), 1, 1) := by kernel_rfl
  cases hi : Try.prog.info? 5 with
  | none => rw [hi] at h; cases h
  | some i => rw [hi] at h; simp at h; exact ⟨i, rfl, h.1, h.2.1, h.2.2⟩

/-- append of bytes. -/
theorem app_bytes {w : World} {base : Nat} {v : Value} {d : List UInt8} {A : Option Addr} (h : Ow w base 5 v (bs d)) (d2 : List UInt8) (ty : TypeId) (c : Nat) (hy : Sl w A (bs d2)) (hlen : d.length + d2.length ≤ 16777216) (hbase : base ≤ w.heap.size) :
    ∃ v' w', (Builtin.append_ #[35, 35] ty #[v, .slice A d2.length c]).run Try.prog w = .ok v' w' ∧ Ow w' base 5 v' (bs (d ++ d2)) ∧ Below base w w' := by
  obtain ⟨i, hi, hz, hs, hb⟩ := byte_info
  have := h.app 35 ty Try.underlying35 hi hz hs hb rfl c hy (bs_one _) (by simpa using hlen) (by omega) hbase
  simpa [bs] using this

theorem Ow.empty (w : World) : Ow (w.alloc (.cells #[] 5)) w.heap.size 5 (.slice (some ⟨w.heap.size, 0, none⟩) 0 0) (bs []) :=
  ⟨by simp [bs], .inr ⟨w.heap.size, 0, #[], rfl, Nat.le_refl _, heap_alloc_new w _, Nat.le_refl _, Nat.zero_le _, rfl, by simp [bs]⟩⟩

/-- bytes.Clone. -/
theorem clone_any (w : World) (d : List UInt8) (A : Option Addr) (c : Nat) (hd : Sl w A (bs d)) (hlen : d.length ≤ 16384) (hA : A = none → d = [] ∧ c = 0) :
    Calls Try.prog 16 #[.slice A d.length c] w fun e w' => ∃ v, e = .returned v ∧ Ow w' w.heap.size 5 v (bs d) ∧ Below w.heap.size w w' := by
  have hn := fun (w : World) (a : Option Addr) (n c : Nat) => Lib.run_eql_slice_nil (P := Try.prog) w 35 5 a n c 0 0 Try.underlying35
  rcases A with _ | a
  · obtain ⟨rfl, rfl⟩ := hA rfl
    go_enter Try.func16, Try.ntmps16
    go_wp2
    go_ret
    exact ⟨_, rfl, by simpa [bs] using Ow.nil w w.heap.size 5, Below.refl _ _⟩
  · obtain ⟨v', w', hr, ho, hb⟩ := app_bytes (Ow.empty w) d 35 c (hd.alloc (.cells #[] 5)) (by simp; omega) (by simp)
    have HO := Lib.hid ho
    have HB := Lib.hid hb
    clear ho hb hd hA
    go_enter Try.func16, Try.ntmps16
    go_wp2_with (at_builtin; go_loud (refine wpList_app _ _ rfl rfl rfl rfl hr ?_))
    go_ret
    exact ⟨v', rfl, HO.out, (bel_alloc _).trans HB.out⟩

/-- The byte at a place of the stream. -/
def byteAt (x : Int) : UInt8 := UInt8.ofNat ((x * 5 + x / 253) % 256).toNat
/-- The bytes from a place on. -/
def bytesL (x : Int) : Nat → List UInt8
  | 0 => []
  | k + 1 => bytesL x k ++ [byteAt (x + k)]
@[simp] theorem bytesL_length (x : Int) : ∀ k, (bytesL x k).length = k
  | 0 => rfl
  | k + 1 => by simp [bytesL, bytesL_length x k]
theorem byteAt_val (x : Int) : ((byteAt x).toNat : Int) = (x * 5 + x / 253) % 256 := by
  unfold byteAt
  have h0 := Int.emod_nonneg (x * 5 + x / 253) (show (256 : Int) ≠ 0 by omega)
  have h1 := Int.emod_lt_of_pos (x * 5 + x / 253) (show (0 : Int) < 256 by omega)
  simp [Nat.mod_eq_of_lt (show ((x * 5 + x / 253) % 256).toNat < 256 by omega)]
  omega

theorem Ow.alloc {w : World} {base : Nat} {e : TypeId} {v : Value} {xs : List Value} (h : Ow w base e v xs) (o : Obj) : Ow (w.alloc o) base e v xs :=
  World.ownsRow.kept h (World.grownBy_alloc w o none) (by cases hv : v.ownBlock <;> simp)

theorem bytes_any (x to : Int) (w : World) (h0 : 0 ≤ x) (h1 : x ≤ to) (h2 : to ≤ 1000000) :
    Calls Try.prog 11 #[.int .i64 x, .int .i64 to] w fun e w' => e = .returned (.string ⟨(bytesL x (to - x).toNat).toArray⟩) ∧ Below w.heap.size w w' := by
  go_enter Try.func11, Try.ntmps11
  go_wp2_with (fail)
  go_loopw [0, 5] (fun s t wr => ∃ k : Nat, x + k ≤ to ∧ s = .int .i64 (x + k) ∧ Ow wr w.heap.size 5 t (bs (bytesL x k)) ∧ Below w.heap.size w wr) (fun s _ _ => (to - intOf s).toNat)
  case atStart => exact ⟨0, by omega, by simp, by simpa [bs, bytesL] using Ow.nil w w.heap.size 5, Below.refl _ _⟩
  case round =>
    obtain ⟨k, hk, rfl, ho, hb⟩ := hrel
    have hsz := hb.size
    by_cases hlt : x + k < to
    · have hx := byteAt_val (x + k)
      have hS : bs (bytesL x (k + 1)) = bs (bytesL x k ++ [byteAt (x + k)]) := rfl
      have hy : Sl (wr.alloc (.cells #[.int .u8 ((byteAt (x + k)).toNat : Int)] 5)) (some ⟨wr.heap.size, 0, none⟩) (bs [byteAt (x + k)]) :=
        fun _ => ⟨_, 0, rfl, fun j v hj => by rw [World.cell?_alloc_mark, Nat.zero_add]; simpa [bs] using hj⟩
      obtain ⟨v', w', hr, ho2, hb2⟩ := app_bytes (ho.alloc (.cells #[.int .u8 ((byteAt (x + k)).toNat : Int)] 5)) [byteAt (x + k)] 35 1 hy (by simp; omega) (by simp; omega)
      rw [← hS] at ho2
      rw [hx] at hr hb2
      have HO := Lib.hid ho2
      have HB := Lib.hid (hb.trans (((Below.refl w.heap.size wr).alloc hsz _).trans hb2))
      clear ho ho2 hb2 hb hy hx hS
      obtain ⟨y, hyy⟩ : ∃ y, y = x + (k : Int) := ⟨_, rfl⟩
      have HY := Lib.hid hyy
      rw [← hyy] at hr hlt hk ⊢
      have hy0 : 0 ≤ y := by omega
      clear hyy
      go_wp2_with (at_builtin; go_loud (refine wpList_app _ _ rfl rfl rfl rfl hr ?_))
      go_roundw
      case rel => exact ⟨k + 1, by have := HY.out; omega, by have := HY.out; subst this; go_num, HO.out, HB.out⟩
      case measure => simp [intOf]; omega
    · have e1 : Hid (k = (to - x).toNat) := Lib.hid (by omega)
      obtain ⟨A, c, rfl, hs, _⟩ := ho.form
      have hcv := fun (w : World) (h : Sl w A (bs (bytesL x k))) => run_conv (P := Try.prog) h 35 9 5 Try.underlying35 Try.underlying5 Try.underlying9 k c (by simp)
      have hc := hcv _ hs
      rw [show (bs (bytesL x k)).length = k by simp]
      go_wp2
      go_ret
      exact ⟨by rw [← e1.out]; rfl, hb⟩
end Go.Proofs.Ytnpmelonkcgpgad

