/- cut01 answers true: the plain law of the part, and the walk. -/
import Derived.Test.YtnpmelonkcgpgaaCut
namespace Go.Proofs.Ytnpmelonkcgpgaa
open Go.RowKit
set_option linter.unusedVariables false
set_option linter.unusedSimpArgs false

/-- The byte at place i stands in the stretch. -/
def wantB (at_ f l : Int) (i : Nat) : Bool := decide (0 ≤ wrap32 (at_ + i - f)) && decide (wrap32 (at_ + i - f) < min l 2147483647)

/-- What cut01 has gathered of the first k bytes. -/
def wantTo (at_ f l : Int) (d : List UInt8) : Nat → List UInt8
  | 0 => []
  | k + 1 => if wantB at_ f l k then wantTo at_ f l d k ++ [d.getD k 0] else wantTo at_ f l d k
def dueTo (at_ f l : Int) (d : List UInt8) : Nat → Int
  | 0 => f
  | k + 1 => if wantB at_ f l k && (wantTo at_ f l d k).isEmpty then (at_ + k) % 4294967296 else dueTo at_ f l d k

theorem wantB_iff {at_ f l : Int} {i : Nat} (hl : 0 ≤ l) (hi : i < 2147483648) : wantB at_ f l i = true ↔ 0 ≤ wrap32 (at_ - f) + i ∧ wrap32 (at_ - f) + i < min l 2147483647 := by
  unfold wantB wrap32
  simp only [Bool.and_eq_true, decide_eq_true_eq]
  omega

/-- The part of the first k bytes. -/
theorem wantTo_eq {at_ f l : Int} (hl : 0 ≤ l) (d : List UInt8) : ∀ k, k ≤ d.length → k < 2147483648 →
    wantTo at_ f l d k = (d.take (min (min l 2147483647 - wrap32 (at_ - f)) k).toNat).drop (max (-(wrap32 (at_ - f))) 0).toNat ∧
      dueTo at_ f l d k = if max (-(wrap32 (at_ - f))) 0 < min (min l 2147483647 - wrap32 (at_ - f)) k then (at_ + max (-(wrap32 (at_ - f))) 0) % 4294967296 else f := by
  intro k
  induction k with
  | zero =>
    intro _ _
    refine ⟨?_, ?_⟩
    · rw [List.drop_of_length_le (by simp; omega)]; rfl
    · rw [if_neg (by omega)]; rfl
  | succ k ih =>
    intro hk hk2
    obtain ⟨i1, i2⟩ := ih (by omega) (by omega)
    have hw := wantB_iff (at_ := at_) (f := f) hl (i := k) (by omega)
    unfold wantTo dueTo
    generalize wrap32 (at_ - f) = off at *
    by_cases hb : wantB at_ f l k = true
    · obtain ⟨h1, h2⟩ := hw.1 hb
      have e1 : (min (min l 2147483647 - off) ((k + 1 : Nat) : Int)).toNat = k + 1 := by omega
      have e2 : (min (min l 2147483647 - off) (k : Int)).toNat = k := by omega
      have e3 : wantTo at_ f l d k = (d.take k).drop (max (-off) 0).toNat := by rw [i1, e2]
      simp only [hb, Bool.true_and, if_true]
      refine ⟨?_, ?_⟩
      · rw [e1, e3, List.take_succ_eq_append_getElem (by omega), List.drop_append_of_le_length (by simp; omega)]
        simp [List.getD, List.getElem?_eq_getElem (show k < d.length by omega)]
      · rw [e3, i2]
        by_cases he : (max (-off) 0).toNat = k
        · rw [List.drop_of_length_le (by simp; omega)]
          simp only [List.isEmpty_nil, if_true]
          rw [if_pos (by omega)]
          congr 1
          omega
        · have hne : ((d.take k).drop (max (-off) 0).toNat).isEmpty = false := by
            rw [List.isEmpty_eq_false_iff]
            intro h0
            have := congrArg List.length h0
            simp at this
            omega
          rw [hne]
          simp only [Bool.false_eq_true, if_false]
          rw [if_pos (by omega), if_pos (by omega)]
    · have hn : ¬ (0 ≤ off + k ∧ off + k < min l 2147483647) := fun h => hb (hw.2 h)
      simp only [hb, Bool.false_and, Bool.false_eq_true, if_false]
      rw [i1, i2]
      by_cases h0 : 0 ≤ off + k
      · have e : (min (min l 2147483647 - off) ((k + 1 : Nat) : Int)) = (min (min l 2147483647 - off) (k : Int)) := by omega
        rw [e]
        exact ⟨rfl, rfl⟩
      · refine ⟨?_, ?_⟩
        · rw [List.drop_of_length_le (by simp; omega), List.drop_of_length_le (by simp; omega)]
        · rw [if_neg (by omega), if_neg (by omega)]

theorem want_all {at_ f l : Int} (hl : 0 ≤ l) (d : List UInt8) (hd : d.length < 2147483648) : wantTo at_ f l d d.length = cutPart at_ f l d ∧ dueTo at_ f l d d.length = cutAt at_ f l d.length :=
  wantTo_eq hl d d.length (Nat.le_refl _) hd

theorem wantTo_len (at_ f l : Int) (d : List UInt8) : ∀ k, (wantTo at_ f l d k).length ≤ k
  | 0 => by simp [wantTo]
  | k + 1 => by
    have := wantTo_len at_ f l d k
    rw [wantTo]
    split
    · simp; omega
    · omega

set_option maxHeartbeats 400000 in
theorem cut01_any (at_ f l : Int) (A : Option Addr) (d : List UInt8) (c : Nat) (w : World) (ha : 0 ≤ at_) (ha' : at_ < 4294967296) (hf : 0 ≤ f) (hf' : f < 4294967296) (hl0 : 0 ≤ l) (hl : l < 4294967296) (hd : Sl w A (bs d)) (hc : d.length ≤ c) (hc2 : c ≤ 9223372036854775807) (hd2 : d.length ≤ 300) :
    Calls Try.prog 7 #[.int .u32 at_, .slice A d.length c, .int .u32 f, .int .u32 l] w fun e w' => e = .returned (.bool true) ∧ Below w.heap.size w w' := by
  go_enter Try.func7, Try.ntmps7
  go_wp2
  go_loop [9, 10, 19] (fun s9 s10 s19 => ∃ k : Nat, k ≤ d.length ∧ s19 = .int .i64 k ∧ s9 = .string ⟨(wantTo at_ f l d k).toArray⟩ ∧ s10 = .int .u32 (dueTo at_ f l d k)) (fun _ _ s => d.length - (intOf s).toNat)
  case atStart => exact ⟨0, Nat.zero_le _, rfl, rfl, rfl⟩
  case round =>
    obtain ⟨k, hk, rfl, rfl, rfl⟩ := hrel
    by_cases hlt : k < d.length
    · have hwb : wantB at_ f l k = (decide (0 ≤ wrap32 (at_ + k - f)) && decide (wrap32 (at_ + k - f) < min l 2147483647)) := rfl
      have C14 : Hid (∀ w, Calls Try.prog 14 #[.int .i64 f, .int .i64 (at_ + k)] w fun e w' => e = .returned (.int .i64 (wrap32 (at_ + k - f))) ∧ w = w') := fun w => ahead01_any f (at_ + k) w
      generalize wrap32 (at_ + k - f) = dd at *
      have hne : ¬ c = k := by omega
      have hcv := run_conv (P := Try.prog) (w := w) (A := A.map (·.add k)) (l := [d[k]]) (by
          have h0 := hd.cut k (k + 1) (k + 1) (by omega) (by simp; omega)
          rw [if_neg (by omega)] at h0
          have e : ((bs d).take (k + 1)).drop k = bs [d[k]] := by
            rw [List.take_succ_eq_append_getElem (by simpa using hlt), List.drop_append_of_le_length (by simp; omega)]
            simp [bs]
          rwa [e] at h0) 24 9 5 Try.underlying24 Try.underlying5 Try.underlying9 1 (c - k) rfl
      have hwl : (wantTo at_ f l d k).length ≤ k := wantTo_len at_ f l d k
      have hs1 : wantTo at_ f l d (k + 1) = if wantB at_ f l k then wantTo at_ f l d k ++ [d[k]] else wantTo at_ f l d k := by
        rw [wantTo, List.getD, List.getElem?_eq_getElem hlt]; rfl
      have hs2 : dueTo at_ f l d (k + 1) = if wantB at_ f l k && (wantTo at_ f l d k).isEmpty then (at_ + k) % 4294967296 else dueTo at_ f l d k := rfl
      rw [hwb] at hs1 hs2
      clear hwb
      cases hE : (wantTo at_ f l d k).isEmpty
      all_goals
        rw [hE] at hs2
        by_cases h1 : 0 ≤ dd
        · by_cases h2 : dd < min l 2147483647
          · rw [decide_eq_true h1, decide_eq_true h2] at hs1 hs2
            have Hs1 := Lib.hid hs1
            have Hs2 := Lib.hid hs2
            clear hs1 hs2
            go_wp2_with (go_at_call 14; refine (C14.out _).mono ?_; rintro e w' ⟨rfl, rfl⟩)
            go_round
            case rel => exact ⟨k + 1, by omega, by go_num, by rw [Hs1.out]; simp [ByteArray.mk_append_mk], by rw [Hs2.out]; rfl⟩
            case measure => simp [intOf]; omega
          · rw [decide_eq_true h1, decide_eq_false h2] at hs1 hs2
            have Hs1 := Lib.hid hs1
            have Hs2 := Lib.hid hs2
            clear hs1 hs2
            go_wp2_with (go_at_call 14; refine (C14.out _).mono ?_; rintro e w' ⟨rfl, rfl⟩)
            go_round
            case rel => exact ⟨k + 1, by omega, by go_num, by rw [Hs1.out]; rfl, by rw [Hs2.out]; rfl⟩
            case measure => simp [intOf]; omega
        · rw [decide_eq_false h1] at hs1 hs2
          have Hs1 := Lib.hid hs1
          have Hs2 := Lib.hid hs2
          clear hs1 hs2
          go_wp2_with (go_at_call 14; refine (C14.out _).mono ?_; rintro e w' ⟨rfl, rfl⟩)
          go_round
          case rel => exact ⟨k + 1, by omega, by go_num, by rw [Hs1.out]; rfl, by rw [Hs2.out]; rfl⟩
          case measure => simp [intOf]; omega
    · obtain rfl : k = d.length := by omega
      obtain ⟨q1, q2⟩ := want_all (at_ := at_) (f := f) hl0 d (by omega)
      rw [q1, q2]
      clear q1 q2
      have hcv := run_conv (P := Try.prog) hd 24 9 5 Try.underlying24 Try.underlying5 Try.underlying9 d.length c rfl
      go_wp2_with (go_at_call 8
                   refine (cut_any at_ f l A d c _ hl0 hl hd hc hc2 (by omega)).mono ?_
                   rintro e w' ⟨A', n, rfl, hn, hS, hb⟩
                   have hcv2 := run_conv (P := Try.prog) hS 24 9 5 Try.underlying24 Try.underlying5 Try.underlying9 n n hn
                   have hcv3 := run_conv (P := Try.prog) (hd.below hb) 24 9 5 Try.underlying24 Try.underlying5 Try.underlying9 d.length c rfl
                   have Hn := Lib.hid hn
                   clear hn)
      go_ret
      exact ⟨rfl, hb⟩
end Go.Proofs.Ytnpmelonkcgpgaa
