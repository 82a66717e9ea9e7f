/- The sender's buffer: bytes are written. None. -/
import Derived.Test.YtnpmelonkcgpgadWrite
namespace Go.Proofs.Ytnpmelonkcgpgad
open Go.RowKit
set_option linter.unusedVariables false
set_option linter.unusedSimpArgs false

section
variable {w w' : World} {b : Nat} {q : BufS}

set_option maxHeartbeats 4000000 in
theorem write_none (w : World) (h : BufAt w b q) (hi : BufIn q) (A : Option Addr) (d : List UInt8) (c : Nat) (now : Int) (hl : q.data.length + d.length ≤ 16384) (hd : Sl w A (bs d)) (n0 : 0 ≤ now) (n1 : now ≤ 1099511627776)
    (hm0 : q.data.length = 0) (hd0 : d.length = 0) :
    Calls Try.prog 7 #[.pointer (some ⟨b, 0, none⟩), .slice A d.length c, .int .u64 now] w fun e w' => ∃ A' c', e = .returned (.int .i64 0) ∧ BufAt w' b (q.write d A' c' now) ∧ Only [b] w w' ∧ ∀ a, A' = some a → w.heap.size ≤ a.block := by
  obtain ⟨c0, c1, c2, c3, c4, c5, c6, c7, c8⟩ := h.cells
  have N := Lib.hid (none_any w h hi)
  have C := Lib.hid (clone_any w q.data q.A q.cap h.sl hi.l1 h.nil)
  have l1 := hi.l1
  have H := Lib.hid h
  have HI := Lib.hid hi
  have HD := Lib.hid hd
  have hbl := h.blk.lt
  clear c1 c2 c3 c4 c5 c6 c7 c8 hd
  generalize hm : q.data.length = m at *
  have Hm := Lib.hid hm
  clear hm
  have hw : Hid (∀ A' c', q.write d A' c' now = { q with data := q.data ++ d, A := A', cap := c' }) := Lib.hid (fun A' c' => by unfold BufS.write; simp only [show ¬ (q.data.length = 0 ∧ 0 < d.length) from by omega, if_false])
  subst hm0
  have e0 : decide (0 < (d.length : Int)) = false := decide_eq_false (by omega)
  have hle : (d.length : Int) ≤ 0 := by omega
  have hle2 : (q.data.length : Int) ≤ 0 := by have := Hm.out; omega
  clear hd0
  go_enter Try.func7, Try.ntmps7
  go_wp2_with (first
    | (go_at_call 15; (with_reducible refine N.out.mono ?_); rintro e w' ⟨rfl, rfl⟩)
    | (go_at_call 16
       go_loud (
        (with_reducible refine C.out.mono ?_)
        rintro e w1 ⟨v, rfl, ho, hb1⟩
        have hz := hb1.size
        obtain ⟨v2, w2, hr, ho2, hb2⟩ := app_bytes ho d 35 c (HD.out.below hb1) (by have := Hm.out; omega) hz
        have HB := Lib.hid (hb1.trans hb2)
        have hq2 := H.out.only (Only.below (S := []) (hb1.trans hb2)) (by simp) (by simp)
        have k0 := hq2.cells.1
        have k0f := hq2.blk.frozen 0
        obtain ⟨A2, cc2, rfl, hs2, hle2, hmx2, hown2, hnil2⟩ := ho2.form
        have st := hq2.store_data hs2 (by simpa using hle2) hmx2 (fun a ha => by have := hown2 a ha; omega) (fun h => by have h5 := hnil2 h; exact ⟨by simpa [bs] using h5.1, h5.2⟩)
        simp only [List.length_append] at st
        have ST := Lib.hid st
        have HOWN := Lib.hid (fun a (ha : A2 = some a) => (hown2 a ha).1)
        have hi2 : Hid (BufIn { q with data := q.data ++ d, A := A2, cap := cc2 }) := Lib.hid ⟨HI.out.u0, HI.out.u1, HI.out.s0, by have := HI.out.s1; simp; omega, by have := Hm.out; simp; omega, HI.out.w0, HI.out.w1, HI.out.r0, HI.out.r1⟩
        clear hq2 ho ho2 hb1 hb2 hs2 hle2 hmx2 hown2 hnil2 st))
    | (at_builtin; go_loud (refine wpList_app _ _ rfl rfl rfl rfl hr ?_)))
  go_ret
  refine ⟨A2, cc2, rfl, ?_, (Only.below (S := [b]) HB.out).trans ST.out.2, HOWN.out⟩
  rw [hw.out]
  exact ST.out.1
end
end Go.Proofs.Ytnpmelonkcgpgad

