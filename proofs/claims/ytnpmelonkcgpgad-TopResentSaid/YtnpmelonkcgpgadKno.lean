/- resent19 where the buffer may not be, and knows19. -/
import Derived.Test.YtnpmelonkcgpgadRes
namespace Go.Proofs.Ytnpmelonkcgpgad
open Go.RowKit
set_option linter.unusedVariables false
set_option linter.unusedSimpArgs false

set_option maxRecDepth 100000 in
set_option maxHeartbeats 1000000 in
theorem resent_bad (first win rto tries : Int) (v : Value) (w : World) (hw0 : 0 ≤ win) (hw : win ≤ 1073741824) (hr : 0 ≤ rto) (hr1 : rto ≤ 1000) (hb : rto < 1 ∨ tries < 1 ∨ 10 < tries) (hv : ∃ A n c, v = .slice A n c) :
    Calls Try.prog 5 #[.int .u32 first, .int .i64 win, .int .u64 rto, .int .i64 tries, v] w fun e w' => e = .returned (.tuple #[.int .i64 0, .bool true]) ∧ w = w' := by
  obtain ⟨A, n, c, rfl⟩ := hv
  have e1 : IntKind.u32.wrap win = win := IntWalk.u32_in _ (by omega)
  have NW := Lib.hid (new_bad w first win rto tries hr (by omega))
  have hc : rto < 1 ∨ (1 ≤ rto ∧ tries < 1) ∨ (1 ≤ rto ∧ 1 ≤ tries ∧ 10 < tries) := by omega
  clear hb
  rcases hc with h1 | ⟨h1, h2⟩ | ⟨h1, h2, h3⟩
  all_goals
    go_enter Try.func5, Try.ntmps5
    go_wp2_with (go_at_call 6; (with_reducible refine NW.out.mono ?_); rintro e w' ⟨rfl, rfl⟩)
    go_ret2
    exact ⟨rfl, rfl⟩

def knQ (data : List UInt8) (una sent wait count alarm : Int) (A : Option Addr) (c : Nat) : BufS := ⟨data, A, c, una, sent, 4, 3, 2, wait, count, alarm⟩
def knActs : List Act4 := [(0, 6, 0, 0), (2, 3, 0, 0), (2, 3, 0, 0), (3, 4, 2, 1), (2, 3, 0, 0), (4, 3, 0, 2), (4, 3, 0, 1), (4, 3, 0, 6), (4, 3, 0, 12), (3, 4, 4, 0), (5, 0, 0, 0), (3, 9, -1, 0), (0, 0, -1, 0)]
theorem kn_told : (resRun ⟨sent0 4 3 2, 0, 0⟩ knActs).told = 5 := by decide +kernel
theorem kn_cut1 (A : Option Addr) (c : Nat) : (cuts 3 16384 0 (min (6 : Int) 4)) = [(0, 3), (3, 4)] := by decide +kernel
theorem kn_cut2 : (cuts 3 16384 4 (min (6 : Int) 4)) = [] := by decide +kernel
theorem kn_cut3 : (cuts 3 16384 2 (min (4 : Int) 4)) = [(2, 4)] := by decide +kernel
theorem kn_in (data : List UInt8) (una sent wait count alarm : Int) (A : Option Addr) (c : Nat) (h0 : 0 ≤ una) (h1 : una < 4294967296) (h2 : 0 ≤ sent) (h3 : sent ≤ data.length) (h4 : data.length ≤ 16384) : BufIn (knQ data una sent wait count alarm A c) :=
  ⟨h0, h1, h2, h3, h4, by simp [knQ], by simp [knQ], by simp [knQ], by simp [knQ]⟩

section
variable (A : Option Addr) (c : Nat)
theorem kn_c1 : cuts 3 16384 (knQ [97, 98, 99, 100, 101, 102] 100 0 3 0 3 A c).sent (min ((knQ [97, 98, 99, 100, 101, 102] 100 0 3 0 3 A c).data.length : Int) (knQ [97, 98, 99, 100, 101, 102] 100 0 3 0 3 A c).window) = [(0, 3), (3, 4)] := kn_cut1 A c
theorem kn_p1 : [((0 : Int), (3 : Int)), (3, 4)].map (pieceOf (knQ [97, 98, 99, 100, 101, 102] 100 0 3 0 3 A c)) = [(100, [97, 98, 99]), (103, [100])] := rfl
theorem kn_s1 : (knQ [97, 98, 99, 100, 101, 102] 100 0 3 0 3 A c).send = knQ [97, 98, 99, 100, 101, 102] 100 4 3 0 3 A c := by simp [BufS.send, knQ]; omega
theorem kn_c2 : cuts 3 16384 (knQ [97, 98, 99, 100, 101, 102] 100 4 3 0 3 A c).sent (min ((knQ [97, 98, 99, 100, 101, 102] 100 4 3 0 3 A c).data.length : Int) (knQ [97, 98, 99, 100, 101, 102] 100 4 3 0 3 A c).window) = [] := kn_cut2
theorem kn_s2 : (knQ [97, 98, 99, 100, 101, 102] 100 4 3 0 3 A c).send = knQ [97, 98, 99, 100, 101, 102] 100 4 3 0 3 A c := by simp [BufS.send, knQ]; omega
theorem kn_a1 : ((knQ [97, 98, 99, 100, 101, 102] 100 4 3 0 3 A c).una + ((2 : Nat) : Int)) % 4294967296 = 102 := rfl
theorem kn_n2 : ((2 : Nat) : Int) = 2 := rfl
theorem kn_k1 (A' : Option Addr) (c' : Nat) : (knQ [97, 98, 99, 100, 101, 102] 100 4 3 0 3 A c).acked 102 2 4 1 A' c' = knQ [99, 100, 101, 102] 102 2 3 0 4 A' c' := by simp [BufS.acked, knQ]
theorem kn_c3 : cuts 3 16384 (knQ [99, 100, 101, 102] 102 2 3 0 4 A c).sent (min ((knQ [99, 100, 101, 102] 102 2 3 0 4 A c).data.length : Int) (knQ [99, 100, 101, 102] 102 2 3 0 4 A c).window) = [(2, 4)] := kn_cut3
theorem kn_p3 : [((2 : Int), (4 : Int))].map (pieceOf (knQ [99, 100, 101, 102] 102 2 3 0 4 A c)) = [(104, [101, 102])] := rfl
theorem kn_t1 : (knQ [99, 100, 101, 102] 102 4 3 0 4 A c).tick 3 4 = knQ [99, 100, 101, 102] 102 4 6 1 10 A c := by simp [BufS.tick, knQ]; omega
theorem kn_t2 : (knQ [99, 100, 101, 102] 102 4 6 1 10 A c).tick 3 10 = knQ [99, 100, 101, 102] 102 4 12 2 22 A c := by simp [BufS.tick, knQ]; omega
theorem kn_u : ((knQ [99, 100, 101, 102] 102 4 3 0 4 A c).una + 0) % 4294967296 = 102 := rfl
theorem kn_u2 : ((knQ [99, 100, 101, 102] 102 4 6 1 10 A c).una + 0) % 4294967296 = 102 := rfl
theorem kn_d : (knQ [99, 100, 101, 102] 102 4 3 0 4 A c).data.take (3 : Int).toNat = [99, 100, 101] := rfl
theorem kn_d2 : (knQ [99, 100, 101, 102] 102 4 6 1 10 A c).data.take (3 : Int).toNat = [99, 100, 101] := rfl
theorem kn_s3 : (knQ [99, 100, 101, 102] 102 2 3 0 4 A c).send = knQ [99, 100, 101, 102] 102 4 3 0 4 A c := by simp [BufS.send, knQ]; omega
end

theorem PcsR.one {w : World} {base : Nat} {vs : List (Int × Value)} {d0 : Int × List UInt8} (h : PcsR w base vs [d0]) : ∃ A0 c0, vs = [(d0.1, .slice A0 d0.2.length c0)] ∧ Sl w A0 (bs d0.2) := by
  match vs, h with
  | [p], h => obtain ⟨⟨h1, A, c, h2, h3, _⟩, _⟩ := h; exact ⟨A, c, by rw [← h1, ← h2], h3⟩
  | p :: _ :: _, h => exact h.2.elim
theorem PcsR.two {w : World} {base : Nat} {vs : List (Int × Value)} {d0 d1 : Int × List UInt8} (h : PcsR w base vs [d0, d1]) : ∃ A0 c0 A1 c1, vs = [(d0.1, .slice A0 d0.2.length c0), (d1.1, .slice A1 d1.2.length c1)] ∧ Sl w A0 (bs d0.2) ∧ Sl w A1 (bs d1.2) := by
  match vs, h with
  | p :: l, h =>
    obtain ⟨⟨h1, A, c, h2, h3, _⟩, h4⟩ := h
    obtain ⟨A1, c1, rfl, h6⟩ := PcsR.one h4
    exact ⟨A, c, A1, c1, by rw [← h1, ← h2], h3, h6⟩

/-- The bytes of a piece, as they are read. -/
theorem kn_conv {w : World} {A : Option Addr} {d : List UInt8} (h : Sl w A (bs d)) (n c : Nat) (hn : n = d.length) : (convert 35 9 (.slice A n c)).run Try.prog w = .ok (.string ⟨d.toArray⟩) w :=
  run_conv (P := Try.prog) h 35 9 5 Try.underlying35 Try.underlying5 Try.underlying9 n c hn

set_option maxRecDepth 100000 in
set_option maxHeartbeats 8000000 in
theorem knows_any (w : World) : Calls Try.prog 4 #[] w fun e w' => e = .returned (.bool true) ∧ Below w.heap.size w w' := by
  have NW := Lib.hid (new_ok w 100 4 3 2 (by omega) (by omega) (by omega) (by omega) (by omega))
  go_enter Try.func4, Try.ntmps4
  go_wp2_with (first
    | (go_at_call 6
       go_loud ((with_reducible refine NW.out.mono ?_)
                rintro e w1 ⟨rfl, hq1, hs1, hb1⟩
                have HS1 := Lib.hid hs1
                have HB1 := Lib.hid hb1
                have kc : (convert 35 35 (.slice (some ⟨w1.heap.size, 0, none⟩) 6 6)).run Try.prog (w1.alloc (.cells #[.int .u8 97, .int .u8 98, .int .u8 99, .int .u8 100, .int .u8 101, .int .u8 102] 5)) = .ok (.slice (some ⟨w1.heap.size, 0, none⟩) 6 6) (w1.alloc (.cells #[.int .u8 97, .int .u8 98, .int .u8 99, .int .u8 100, .int .u8 101, .int .u8 102] 5 (6, 7))) := Lib.run_convert_bytes_const (P := Try.prog) w1 35 5 #[.int .u8 97, .int .u8 98, .int .u8 99, .int .u8 100, .int .u8 101, .int .u8 102] 6 6 Try.underlying35 Try.underlying5
                have kw : Below w1.heap.size w1 (w1.alloc (.cells #[.int .u8 97, .int .u8 98, .int .u8 99, .int .u8 100, .int .u8 101, .int .u8 102] 5 (6, 7))) := bel_alloc _
                have ks : Sl (w1.alloc (.cells #[.int .u8 97, .int .u8 98, .int .u8 99, .int .u8 100, .int .u8 101, .int .u8 102] 5 (6, 7))) (some ⟨w1.heap.size, 0, none⟩) (bs [97, 98, 99, 100, 101, 102]) := by
                  have := row_new w1 (bs [97, 98, 99, 100, 101, 102]) 5 (6, 7)
                  simpa [bs] using this
                have WS0 := write_all _ (hq1.grow kw) ⟨by simp, by simp, by simp, by simp, by simp, by simp, by simp, by simp, by simp⟩ (some ⟨w1.heap.size, 0, none⟩) [97, 98, 99, 100, 101, 102] 6 0 (by simp) ks (by omega) (by omega)
                simp only [List.length_cons, List.length_nil, Nat.reduceAdd] at WS0
                have WS := Lib.hid WS0
                have HKW := Lib.hid kw
                clear hq1 hs1 hb1 kw ks WS0))
    | (go_at_call 7
       go_loud ((with_reducible refine WS.out.mono ?_)
                rintro e w2 ⟨A2, c2, rfl, hq2, ho2, hA2⟩
                have e2 : BufS.write ⟨[], none, 0, 100, 0, 4, 3, 2, 3, 0, 0⟩ [97, 98, 99, 100, 101, 102] A2 c2 0 = knQ [97, 98, 99, 100, 101, 102] 100 0 3 0 3 A2 c2 := by simp [BufS.write, knQ]
                rw [e2] at hq2
                have S0 := send_ok w2 hq2 (kn_in _ _ _ _ _ _ _ _ (by omega) (by omega) (by omega) (by simp) (by simp)) 3 rfl
                rw [kn_c1, kn_p1, kn_s1] at S0
                have S1 := Lib.hid S0
                have HO2 := Lib.hid ho2
                clear hq2 ho2 hA2 e2 S0))
    | (go_at_call 8
       go_loud ((with_reducible refine S1.out.mono ?_)
                rintro e w3 ⟨A3, c3, vs3, rfl, hsl3, hpc3, hq3, ho3, hwn3⟩
                have S0 := send_ok w3 hq3 (kn_in _ _ _ _ _ _ _ _ (by omega) (by omega) (by omega) (by simp) (by simp)) 3 rfl
                rw [kn_c2, kn_s2] at S0
                have S2 := Lib.hid S0
                have HO3 := Lib.hid ho3
                have HP3 := Lib.hid (And.intro hsl3 (And.intro hpc3 hwn3))
                clear hsl3 hpc3 hq3 ho3 hwn3 S0))
    | (go_at_call 8
       go_loud ((with_reducible refine S2.out.mono ?_)
                rintro e w4 ⟨A4, c4, vs4, rfl, hsl4, hpc4, hq4, ho4, hwn4⟩
                have K0 := acked_part w4 hq4 (kn_in _ _ _ _ _ _ _ _ (by omega) (by omega) (by omega) (by simp) (by simp)) 2 4 1 (by omega) (by simp [knQ]) (by simp [knQ]) (by omega) (by omega) (by omega) (by omega)
                rw [kn_a1, kn_n2] at K0
                have AK := Lib.hid K0
                have HO4 := Lib.hid ho4
                clear hsl4 hpc4 hq4 ho4 hwn4 K0))
    | (go_at_call 9
       go_loud ((with_reducible refine AK.out.mono ?_)
                rintro e w5 ⟨A5, c5, rfl, hq5, ho5, _⟩
                rw [kn_k1] at hq5
                have S0 := send_ok w5 hq5 (kn_in _ _ _ _ _ _ _ _ (by omega) (by omega) (by omega) (by simp) (by simp)) 3 rfl
                rw [kn_c3, kn_p3, kn_s3] at S0
                have S3 := Lib.hid S0
                have HO5 := Lib.hid ho5
                clear hq5 ho5 S0))
    | (go_at_call 8
       go_loud ((with_reducible refine S3.out.mono ?_)
                rintro e w6 ⟨A6, c6, vs6, rfl, hsl6, hpc6, hq6, ho6, hwn6⟩
                have ho36 := (HO4.out.trans HO5.out).trans ho6
                have hz3 : w.heap.size < w3.heap.size := by have := HS1.out; have := HKW.out.size; have := HO2.out.size; have := HO3.out.size; omega
                obtain ⟨hsl3, hpc3, hwn3⟩ := HP3.out
                have hbz : w.heap.size < w2.heap.size := by have := HS1.out; have := HKW.out.size; have := HO2.out.size; omega
                have hp36 := hpc3.only ho36 (by simp; exact hbz)
                have hs36 := sl_only hsl3 ho36 (fun a ha => by have := hwn3 a ha; simp; omega)
                obtain ⟨B0, d0, B1, d1, hv3, hb0, hb1⟩ := hp36.two
                obtain ⟨B2, d2, hv6, hb2⟩ := hpc6.one
                subst hv3
                subst hv6
                obtain ⟨p3, o3, rfl, hc3⟩ := hs36 (by simp [pcCells])
                obtain ⟨p6, o6, rfl, hc6⟩ := hsl6 (by simp [pcCells])
                have r0 : w6.cell? ⟨p3, o3, none⟩ = some (.int .u32 100) := hc3 0 _ rfl
                have r1 : w6.cell? ⟨p3, o3 + 1, none⟩ = some (.slice B0 3 d0) := hc3 1 _ rfl
                have r2 : w6.cell? ⟨p3, o3 + 2, none⟩ = some (.int .u32 103) := hc3 2 _ rfl
                have r3 : w6.cell? ⟨p3, o3 + 2 + 1, none⟩ = some (.slice B1 1 d1) := hc3 3 _ rfl
                have r4 : w6.cell? ⟨p6, o6, none⟩ = some (.int .u32 104) := hc6 0 _ rfl
                have r5 : w6.cell? ⟨p6, o6 + 1, none⟩ = some (.slice B2 2 d2) := hc6 1 _ rfl
                have v0 := kn_conv hb0 3 d0 rfl
                have v1 := kn_conv hb1 1 d1 rfl
                have v2 := kn_conv hb2 2 d2 rfl
                have T1 := Lib.hid (tick_wait w6 hq6 (kn_in _ _ _ _ _ _ _ _ (by omega) (by omega) (by omega) (by simp) (by simp)) 3 3 rfl (.inr (by simp [knQ])))
                have HQ6 := Lib.hid hq6
                have HO6 := Lib.hid ho36
                clear hsl3 hpc3 hwn3 hp36 hs36 hb0 hb1 hb2 hc3 hc6 hsl6 hpc6 hq6 ho6 hwn6 ho36 hz3 hbz)))
  clear kc r0 r1 r2 r3 r4 r5 v0 v1 v2
  go_wp2_with (first
    | (go_at_call 10
       go_loud ((with_reducible refine T1.out.mono ?_)
                rintro e w7 ⟨rfl, hb7⟩
                unfold noPiece
                have hq7 := (HQ6.out.grow hb7).grow (bel_alloc (.cells #[.int .u32 0, .slice none 0 0] 42))
                have T0 := tick_ok _ hq7 (kn_in _ _ _ _ _ _ _ _ (by omega) (by omega) (by omega) (by simp) (by simp)) 3 4 3 rfl (by simp [knQ]) (by simp [knQ]) (by simp [knQ]) (by simp [knQ]; omega) (by simp [knQ]) (by simp [knQ]) (by simp [knQ]) (by simp [knQ]) (by omega) (by omega)
                rw [kn_t1, kn_u, kn_d] at T0
                have T2 := Lib.hid T0
                have HB7 := Lib.hid (hb7.trans ((bel_alloc (.cells #[.int .u32 0, .slice none 0 0] 42)).mono hb7.size))
                clear hb7 hq7 T0))
    | (go_at_call 10
       go_loud ((with_reducible refine T2.out.mono ?_)
                rintro e w8 ⟨v8, rfl, ho8, hq8, hO8⟩
                obtain ⟨A8, c8, rfl, hs8, _, _, hn8, _⟩ := ho8.form
                have hq9 := hq8.grow (bel_alloc (.cells #[.int .u32 102, .slice A8 3 c8] 42))
                have T0 := tick_ok _ hq9 (kn_in _ _ _ _ _ _ _ _ (by omega) (by omega) (by omega) (by simp) (by simp)) 3 10 3 rfl (by simp [knQ]) (by simp [knQ]) (by simp [knQ]) (by simp [knQ]; omega) (by simp [knQ]) (by simp [knQ]) (by simp [knQ]) (by simp [knQ]) (by omega) (by omega)
                rw [kn_t2, kn_u2, kn_d2] at T0
                have T3 := Lib.hid T0
                have hR8 := Blk.new w8 42 #[.int .u32 102, .slice A8 3 c8]
                have HR8 := Lib.hid (And.intro hR8 (And.intro (hs8.alloc (.cells #[.int .u32 102, .slice A8 3 c8] 42)) hn8))
                have HO8 := Lib.hid hO8
                simp only [bs_length, List.length_cons, List.length_nil, Nat.reduceAdd]
                clear ho8 hq8 hO8 hs8 hn8 hq9 T0 hR8))
    | (go_at_call 10
       go_loud ((with_reducible refine T3.out.mono ?_)
                rintro e w9 ⟨v9, rfl, ho9, hq9, hO9⟩
                obtain ⟨A9, c9, rfl, hs9, _, _, hn9, _⟩ := ho9.form
                have hq10 := hq9.grow (bel_alloc (.cells #[.int .u32 102, .slice A9 3 c9] 42))
                have T0 := tick_full _ hq10 (kn_in _ _ _ _ _ _ _ _ (by omega) (by omega) (by omega) (by simp) (by simp)) 3 22 rfl (by simp [knQ]) (by simp [knQ]) (by simp [knQ])
                have T4 := Lib.hid T0
                have HO9 := Lib.hid hO9
                simp only [bs_length, List.length_cons, List.length_nil, Nat.reduceAdd]
                clear ho9 hq9 hO9 hs9 hn9 hq10 T0))
    | (go_at_call 10
       go_loud ((with_reducible refine T4.out.mono ?_)
                rintro e w10 ⟨rfl, hb10⟩
                unfold noPiece
                have HB10 := Lib.hid hb10
                clear hb10)))
  have hrow := row_new (w10.alloc (.cells #[.int .u32 0, .slice none 0 0] 42)) (quadCells .u8 .u8 .i16 .u16 knActs) 47 (0, 0)
  rw [show (w10.alloc (.cells #[.int .u32 0, .slice none 0 0] 42)).heap.size = w10.heap.size + 1 by simp] at hrow
  have R := resent_ok 4294967290 4 3 2 (some ⟨w10.heap.size + 1, 0, none⟩) knActs 13 _ (by omega) (by omega) (by omega) (by omega) (by omega) (by omega) (by omega) (by omega) hrow (by decide) (by decide) (by decide)
  rw [kn_told, show knActs.length = 13 from rfl] at R
  clear hrow
  refine R.mono ?_
  clear R
  rintro e w11 ⟨rfl, hb11⟩
  have hO11 : Only [w.heap.size] (w8.alloc (.cells #[.int .u32 102, .slice A8 3 c8] 42)) w11 :=
    ((((HO9.out.alloc _).trans (Only.below HB10.out)).alloc _).alloc _).trans (Only.below hb11)
  have hs1 := HS1.out
  have k1 := HKW.out.size
  have k2 := HO2.out.size
  have k3 := HO3.out.size
  have k4 := HO6.out.size
  have k5 := HB7.out.size
  have k6 := HO8.out.size
  obtain ⟨hR8, hS8, hn8⟩ := HR8.out
  have hR11 := hR8.only hO11 (by simp; omega)
  have hS11 := sl_only hS8 hO11 (fun a ha => by have := (hn8 a ha).1; simp; omega)
  have r0 : w11.cell? ⟨w8.heap.size, 0, none⟩ = some (.int .u32 102) := hR11.cell 0
  have r1 : w11.cell? ⟨w8.heap.size, 1, none⟩ = some (.slice A8 3 c8) := hR11.cell 1
  have v0 := kn_conv hS11 3 c8 rfl
  have hB : Hid (Below w.heap.size w w11) := Lib.hid (by
    have hA : Only [w.heap.size] (w1.alloc (.cells #[.int .u8 97, .int .u8 98, .int .u8 99, .int .u8 100, .int .u8 101, .int .u8 102] 5 (6, 7))) w11 :=
      (((((HO2.out.trans HO3.out).trans HO6.out).trans (Only.below HB7.out)).trans HO8.out).alloc _).trans hO11
    exact (HB1.out.trans (HKW.out.mono (by omega))).trans (hA.toBelow (by omega) (by simp)))
  clear hb11 hO11 hs1 k1 k2 k3 k4 k5 k6 hR8 hS8 hn8 hR11 hS11
  go_wp2_with (fail)
  go_ret
  exact ⟨rfl, hB.out⟩
end Go.Proofs.Ytnpmelonkcgpgad

