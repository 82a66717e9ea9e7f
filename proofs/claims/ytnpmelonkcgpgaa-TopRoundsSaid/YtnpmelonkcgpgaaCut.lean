/- seq.Cut. -/
import Derived.Test.YtnpmelonkcgpgaaSeq
import Derived.Test.YtnpmelonkcgpgaaBase
import Derived.Lib.MinMax
namespace Go.Proofs.Ytnpmelonkcgpgaa
open Go.RowKit
set_option linter.unusedVariables false
set_option linter.unusedSimpArgs false

theorem info5 : (Try.prog.info? 5).map (fun i => (i.zero, i.size, i.bytes)) = some (some (.int .u8 0), 1, 1) := by kernel_rfl

def cutFirst (at_ f : Int) : Int := max (-(wrap32 (at_ - f))) 0
def cutLast (at_ f l : Int) (n : Nat) : Int := min (min l 2147483647 - wrap32 (at_ - f)) n
/-- The part of d that stands in the stretch. -/
def cutPart (at_ f l : Int) (d : List UInt8) : List UInt8 := (d.take (cutLast at_ f l d.length).toNat).drop (cutFirst at_ f).toNat
def cutAt (at_ f l : Int) (n : Nat) : Int := if cutFirst at_ f < cutLast at_ f l n then (at_ + cutFirst at_ f) % 4294967296 else f

set_option maxHeartbeats 400000 in
theorem cut_any (at_ f l : Int) (A : Option Addr) (d : List UInt8) (c : Nat) (w : World) (hl0 : 0 ≤ l) (hl : l < 4294967296) (hd : Sl w A (bs d)) (hc : d.length ≤ c) (hc2 : c ≤ 9223372036854775807) (hd2 : d.length ≤ 65536) :
    Calls Try.prog 8 #[.int .u32 at_, .slice A d.length c, .int .u32 f, .int .u32 l] w fun e w' =>
      ∃ A' n, e = .returned (.tuple #[.int .u32 (cutAt at_ f l d.length), .slice A' n n]) ∧ n = (cutPart at_ f l d).length ∧ Sl w' A' (bs (cutPart at_ f l d)) ∧ Below w.heap.size w w' := by
  have hw1 : -2147483648 ≤ wrap32 (at_ - f) := by unfold wrap32; omega
  have hw2 : wrap32 (at_ - f) ≤ 2147483647 := by unfold wrap32; omega
  have C10 : Hid (∀ w, Calls Try.prog 10 #[.int .u32 f, .int .u32 at_] w fun e w' => e = .returned (.int .i32 (wrap32 (at_ - f))) ∧ w = w') := fun w => ahead_any f at_ w
  by_cases hlt : cutFirst at_ f < cutLast at_ f l d.length
  · have hF : Hid (cutAt at_ f l d.length = (at_ + cutFirst at_ f) % 4294967296) := by unfold cutAt; rw [if_pos hlt]; exact rfl
    unfold cutPart
    unfold cutFirst cutLast at *
    generalize wrap32 (at_ - f) = off at *
    obtain ⟨i0, hi, hz0, hz1, hz2⟩ := info_parts info5
    have hS := hd.cut (max (-off) 0).toNat (min (min l 2147483647 - off) d.length).toNat (min (min l 2147483647 - off) d.length).toNat (by omega) (by simp; omega)
    rw [if_neg (by omega)] at hS
    have hb : bs ((d.take (min (min l 2147483647 - off) d.length).toNat).drop (max (-off) 0).toNat) = ((bs d).take (min (min l 2147483647 - off) d.length).toNat).drop (max (-off) 0).toNat := by simp [bs]
    rw [← hb] at hS
    clear hb
    have hn : (bs ((d.take (min (min l 2147483647 - off) d.length).toNat).drop (max (-off) 0).toNat)).length = (min (min l 2147483647 - off) d.length).toNat - (max (-off) 0).toNat := by simp; omega
    have hmk := run_make_n w 24 5 i0 (.int .u8 0) Try.underlying24 hi hz0 hz1 rfl ((min (min l 2147483647 - off) d.length).toNat - (max (-off) 0).toNat) (by rw [hz2]; omega) (by omega)
    have hcp := run_copy_new w 24 24 3 5 Try.underlying24 (by simp [hi, hz1]) _ _ hS (bs_one _) (Array.replicate ((min (min l 2147483647 - off) d.length).toNat - (max (-off) 0).toNat) (.int .u8 0)) _ ((min (min l 2147483647 - off) d.length).toNat - (max (-off) 0).toNat) hn (by simp)
    have Hn := Lib.hid hn
    clear hn hi hz0 hz1 hz2
    go_enter Try.func8, Try.ntmps8
    go_wp2_with (first | (go_at_call 10; refine (C10.out _).mono ?_; rintro e w' ⟨rfl, rfl⟩) | (go_at_call 9; refine (add_any _ _ _).mono ?_; rintro e w' ⟨rfl, rfl⟩))
    go_ret2
    refine ⟨some ⟨w.heap.size, 0, none⟩, _, congrArg (fun x => Ending.returned (.tuple #[.int .u32 x, _])) hF.out.symm, by have := Hn.out; simpa using this.symm, ?_, (Below.refl _ _).alloc (Nat.le_refl _) _⟩
    exact fun _ => ⟨_, 0, rfl, fun j v hj => by simpa using hj⟩
  · have hF : Hid (cutAt at_ f l d.length = f) := by unfold cutAt; rw [if_neg hlt]; exact rfl
    have hP : Hid (cutPart at_ f l d = []) := by
      unfold cutPart
      refine List.drop_of_length_le ?_
      simp
      unfold cutFirst cutLast at *
      omega
    unfold cutFirst cutLast at *
    generalize wrap32 (at_ - f) = off at *
    go_enter Try.func8, Try.ntmps8
    go_wp2_with (first | (go_at_call 10; refine (C10.out _).mono ?_; rintro e w' ⟨rfl, rfl⟩))
    go_ret2
    exact ⟨none, 0, congrArg (fun x => Ending.returned (.tuple #[.int .u32 x, _])) hF.out.symm, by rw [hP.out]; rfl, by rw [hP.out]; exact Sl.nil _ _, Below.refl _ _⟩
end Go.Proofs.Ytnpmelonkcgpgaa
