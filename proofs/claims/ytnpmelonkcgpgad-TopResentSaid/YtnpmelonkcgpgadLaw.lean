/- The plain law of the sender's buffer and the noter: acts, one by one. -/
import Derived.Test.YtnpmelonkcgpgadAnew
import Derived.Test.YtnpmelonkcgpgadBytes
namespace Go.Proofs.Ytnpmelonkcgpgad
open Go.RowKit
set_option linter.unusedVariables false
set_option linter.unusedSimpArgs false

/-- An act: its kind, how many, a place, ticks. -/
abbrev Act4 := Int × Int × Int × Int
def mssOf (m p : Int) : Int := m % 40 + (p.tmod 1500).tdiv 40 * 40
def mayB (m : Int) : Bool := decide (1 ≤ m) && decide (m ≤ 1500)
/-- Pieces of at most so many bytes, from a place to another one. -/
def cuts (mss : Int) : Nat → Int → Int → List (Int × Int)
  | 0, _, _ => []
  | f + 1, a, e => if a < e then (a, min (a + mss) e) :: cuts mss f (min (a + mss) e) e else []
theorem cuts_done (mss a e : Int) (f : Nat) (h : e ≤ a) : cuts mss f a e = [] := by
  cases f with
  | zero => rfl
  | succ f => unfold cuts; rw [if_neg (by omega)]
theorem cuts_fuel (mss : Int) (hm : 1 ≤ mss) : ∀ (f g : Nat) (a e : Int), e - a ≤ f → e - a ≤ g → cuts mss f a e = cuts mss g a e := by
  intro f
  induction f with
  | zero => intro g a e hf hg; rw [cuts_done _ _ _ _ (by omega), cuts_done _ _ _ _ (by omega)]
  | succ f ih =>
    intro g a e hf hg
    by_cases h : a < e
    · cases g with
      | zero => omega
      | succ g =>
        unfold cuts
        rw [if_pos h, if_pos h, ih g _ _ (by omega) (by omega)]
    · rw [cuts_done _ _ _ _ (by omega), cuts_done _ _ _ _ (by omega)]
theorem cuts_length (mss : Int) (hm : 1 ≤ mss) : ∀ (f : Nat) (a e : Int), (cuts mss f a e).length ≤ (e - a).toNat := by
  intro f
  induction f with
  | zero => intro a e; simp [cuts]
  | succ f ih =>
    intro a e
    unfold cuts
    split
    · have := ih (min (a + mss) e) e
      simp only [List.length_cons]; omega
    · simp

/-- The noter, the clock, how many pieces were told. -/
structure ResS where
  x : SentS
  now : Int
  told : Int

def SentS.write (x : SentS) (n now : Int) : SentS :=
  if 16384 < x.fin - x.una + n then x else if x.fin = x.una ∧ 0 < n then ({ x with fin := x.fin + n }).anew now else { x with fin := x.fin + n }
def SentS.reach (x : SentS) : Int := min x.fin (x.una + x.window)
def SentS.send (x : SentS) : SentS := { x with nxt := max x.nxt x.reach }
def SentS.pieces (x : SentS) (mss : Int) : List (Int × Int) := cuts mss 16384 x.nxt x.reach
def SentS.acked (x : SentS) (ack w now : Int) : SentS :=
  if ack < x.una ∨ x.nxt < ack ∨ 1073741824 < w then x else if x.una < ack then ({ x with una := ack, window := w }).anew now else { x with una := ack, window := w }
def SentS.tickTo (x : SentS) (mss : Int) : Int := x.una + max (min (min mss (x.fin - x.una)) x.window) 1
def SentS.ticks (x : SentS) (now : Int) : Bool := x.set_ && decide (x.alarm ≤ now) && !(x.count == x.tries)
def SentS.tick (x : SentS) (mss now : Int) : SentS :=
  if x.ticks now = true then { x with count := x.count + 1, wait := x.wait * 2, alarm := now + x.wait * 2, nxt := max x.nxt (x.tickTo mss) } else x
def ackOf (x : SentS) (p : Int) : Int := x.una + p.tmod 50
def winOf (m : Int) : Int := if m = 255 then 1073741825 else m
def manyOf (m p : Int) : Int := if p = -1 then 16385 else m

def ResS.step (s : ResS) (a : Act4) : ResS :=
  let now := s.now + a.2.2.2 % 64
  let mss := mssOf a.2.1 a.2.2.1
  if a.1 % 6 = 0 ∨ a.1 % 6 = 1 then { s with now := now, x := s.x.write (manyOf a.2.1 a.2.2.1) now }
  else if a.1 % 6 = 2 then (if mayB mss = true then ⟨s.x.send, now, s.told + (s.x.pieces mss).length⟩ else { s with now := now })
  else if a.1 % 6 = 3 then { s with now := now, x := s.x.acked (ackOf s.x a.2.2.1) (winOf a.2.1) now }
  else if a.1 % 6 = 4 then (if mayB mss = true then ⟨s.x.tick mss now, now, if s.x.ticks now = true then s.told + 1 else s.told⟩ else { s with now := now })
  else { s with now := now }
def resRun (s : ResS) : List Act4 → ResS
  | [] => s
  | a :: l => resRun (s.step a) l

/-- What holds of the buffer and the noter between two acts; i: how many acts were. -/
structure Keeps (first : Int) (q : BufS) (x : SentS) (now : Int) (i : Nat) : Prop where
  f0 : 0 ≤ first
  f1 : first < 4294967296
  u : q.una = (first + x.una) % 4294967296
  sent : q.sent = x.nxt - x.una
  data : q.data = bytesL x.una (x.fin - x.una).toNat
  window : q.window = x.window
  rto : q.rto = x.rto
  tries : q.tries = x.tries
  wait : q.wait = x.wait
  count : q.count = x.count
  alarm : x.una < x.fin → q.alarm = x.alarm
  al0 : ¬ x.una < x.fin → x.alarm = 0
  set : x.set_ = decide (x.una < x.fin)
  p0 : 0 ≤ x.una
  p1 : x.una ≤ x.nxt
  p2 : x.nxt ≤ x.fin
  p3 : x.fin - x.una ≤ 16384
  p4 : x.fin ≤ i * 16385
  w0 : 0 ≤ x.window
  w1 : x.window ≤ 1073741824
  r0 : 1 ≤ x.rto
  r1 : x.rto ≤ 1073741824
  t0 : 1 ≤ x.tries
  t1 : x.tries ≤ 10
  c0 : 0 ≤ x.count
  c1 : x.count ≤ x.tries
  wt : x.wait = x.rto * 2 ^ x.count.toNat
  n0 : 0 ≤ now
  n1 : now ≤ i * 64
  a0 : 0 ≤ q.alarm
  a1 : q.alarm ≤ 1099511627776 + 64 * i

theorem pow_le {n : Nat} (h : n ≤ 10) : (2 : Int) ^ n ≤ 1024 ∧ 1 ≤ (2 : Int) ^ n := by
  have : n = 0 ∨ n = 1 ∨ n = 2 ∨ n = 3 ∨ n = 4 ∨ n = 5 ∨ n = 6 ∨ n = 7 ∨ n = 8 ∨ n = 9 ∨ n = 10 := by omega
  rcases this with rfl | rfl | rfl | rfl | rfl | rfl | rfl | rfl | rfl | rfl | rfl <;> decide

section
variable {first : Int} {q : BufS} {x : SentS} {now : Int} {i : Nat}
theorem Keeps.len (h : Keeps first q x now i) : (q.data.length : Int) = x.fin - x.una := by rw [h.data]; have := h.p1; have := h.p2; simp; omega
theorem Keeps.in_ (h : Keeps first q x now i) : BufIn q where
  u0 := by rw [h.u]; omega
  u1 := by rw [h.u]; omega
  s0 := by rw [h.sent]; have := h.p1; omega
  s1 := by rw [h.len, h.sent]; have := h.p2; omega
  l1 := by have := h.len; have := h.p3; omega
  w0 := by rw [h.window]; exact h.w0
  w1 := by rw [h.window]; exact h.w1
  r0 := by rw [h.rto]; exact h.r0
  r1 := by rw [h.rto]; exact h.r1
theorem Keeps.wait_le (h : Keeps first q x now i) : 0 ≤ x.wait ∧ x.wait ≤ 1099511627776 := by
  have hp := pow_le (n := x.count.toNat) (by have := h.c1; have := h.t1; omega)
  have r0 := h.r0
  have r1 := h.r1
  rw [h.wt]
  refine ⟨Int.mul_nonneg (by omega) (by omega), ?_⟩
  exact Int.le_trans (Int.mul_le_mul r1 hp.1 (by omega) (by omega)) (by omega)
/-- What is told alike. -/
theorem Keeps.told (h : Keeps first q x now i) (hi : i ≤ 60) : Told first q x := by
  obtain ⟨p0, p1, p2, p3, p4⟩ := (show 0 ≤ x.una ∧ x.una ≤ x.nxt ∧ x.nxt ≤ x.fin ∧ x.fin - x.una ≤ 16384 ∧ x.fin ≤ i * 16385 from ⟨h.p0, h.p1, h.p2, h.p3, h.p4⟩)
  have f0 := h.f0
  have f1 := h.f1
  have w0 := h.w0
  have w1 := h.w1
  have hl := h.len
  have w32 : ∀ n : Int, IntKind.u32.wrap n = n % 4294967296 := fun n => by simp [IntKind.wrap, IntKind.bits, IntKind.signed]
  refine ⟨?_, ?_, ?_, ?_, ?_, ?_⟩
  · rw [w32, w32, h.u]; omega
  · rw [w32, w32, h.u, h.sent]; omega
  · rw [w32, w32, h.u, hl]; omega
  · rw [w32, h.window]; omega
  · rw [h.set]
    by_cases hu : x.una < x.fin
    · simp [hu, show ¬ q.data.length = 0 by omega]
    · simp [hu, show q.data.length = 0 by omega]
  · by_cases hu : x.una < x.fin
    · rw [if_neg (by omega), h.alarm hu]
    · rw [if_pos (by omega), h.al0 hu]
/-- The clock goes on. -/
theorem Keeps.later (h : Keeps first q x now i) (d : Int) (d0 : 0 ≤ d) (d1 : d < 64) : Keeps first q x (now + d) (i + 1) :=
  { h with p4 := by have := h.p4; omega, n0 := by have := h.n0; omega, n1 := by have := h.n1; omega, a1 := by have := h.a1; omega }
end

theorem bytesL_add (x : Int) (a : Nat) : ∀ b, bytesL x (a + b) = bytesL x a ++ bytesL (x + a) b
  | 0 => by simp [bytesL]
  | b + 1 => by
    rw [← Nat.add_assoc]
    show bytesL x (a + b) ++ [byteAt (x + ((a + b : Nat) : Int))] = bytesL x a ++ (bytesL (x + a) b ++ [byteAt (x + a + b)])
    rw [bytesL_add x a b, List.append_assoc, show x + ((a + b : Nat) : Int) = x + a + b by omega]
theorem bytesL_take (x : Int) (n k : Nat) (h : k ≤ n) : (bytesL x n).take k = bytesL x k := by
  obtain ⟨d, rfl⟩ : ∃ d, n = k + d := ⟨n - k, by omega⟩
  rw [bytesL_add, List.take_left' (by simp)]
theorem bytesL_drop (x : Int) (n k : Nat) (h : k ≤ n) : (bytesL x n).drop k = bytesL (x + k) (n - k) := by
  obtain ⟨d, rfl⟩ : ∃ d, n = k + d := ⟨n - k, by omega⟩
  rw [bytesL_add, List.drop_left' (by simp), show k + d - k = d by omega]

/-- What Write leaves. -/
def BufS.write (q : BufS) (d : List UInt8) (A : Option Addr) (cap : Nat) (now : Int) : BufS :=
  { q with data := q.data ++ d, A := A, cap := cap, wait := if q.data.length = 0 ∧ 0 < d.length then q.rto else q.wait, count := if q.data.length = 0 ∧ 0 < d.length then 0 else q.count, alarm := if q.data.length = 0 ∧ 0 < d.length then now + q.rto else q.alarm }
def BufS.send (q : BufS) : BufS := { q with sent := max q.sent (min (q.data.length : Int) q.window) }
def BufS.acked (q : BufS) (ack : Int) (n : Nat) (w now : Int) (A : Option Addr) (c : Nat) : BufS :=
  if 0 < n then { q with una := ack, sent := q.sent - n, window := w, data := q.data.drop n, A := A, cap := c, wait := q.rto, count := 0, alarm := now + q.rto } else { q with window := w }
def BufS.tick (q : BufS) (to now : Int) : BufS := { q with count := q.count + 1, wait := q.wait * 2, alarm := now + q.wait * 2, sent := max q.sent to }

section
variable {first : Int} {q : BufS} {x : SentS} {now : Int} {i : Nat}
theorem Keeps.write (h : Keeps first q x now (i + 1)) (hp : x.fin ≤ i * 16385) (n : Int) (n0 : 0 ≤ n) (n1 : n ≤ 16385) (hi : i ≤ 60) (hl : ¬ 16384 < x.fin - x.una + n) (A : Option Addr) (c : Nat) :
    Keeps first (q.write (bytesL x.fin n.toNat) A c now) (x.write n now) now (i + 1) := by
  have hlen := h.len
  have p0 := h.p0
  have p1 := h.p1
  have p2 := h.p2
  have r0 := h.r0
  have r1 := h.r1
  have b0 := h.n0
  have b1 := h.n1
  have e : (x.fin + n - x.una).toNat = (x.fin - x.una).toNat + n.toNat := by omega
  have e2 : x.una + ((x.fin - x.una).toNat : Int) = x.fin := by omega
  have hd : q.data ++ bytesL x.fin n.toNat = bytesL x.una (x.fin + n - x.una).toNat := by rw [e, bytesL_add, e2, ← h.data]
  unfold SentS.write
  rw [if_neg hl]
  by_cases hc : x.fin = x.una ∧ 0 < n
  · rw [if_pos hc]
    have hq : (q.data.length = 0 ∧ 0 < (bytesL x.fin n.toNat).length) = True := eq_true ⟨by omega, by rw [bytesL_length]; omega⟩
    unfold BufS.write SentS.anew
    simp only [hq, if_true]
    have hlt : x.una < x.fin + n := by omega
    exact { f0 := h.f0, f1 := h.f1, u := h.u, sent := h.sent, data := hd, window := h.window, rto := h.rto, tries := h.tries, wait := h.rto, count := rfl, alarm := fun _ => by simp only [hlt, if_true]; rw [h.rto], al0 := fun hn => absurd hlt hn, set := rfl, p0 := p0, p1 := p1, p2 := by dsimp only; omega, p3 := by dsimp only; omega, p4 := by dsimp only; omega, w0 := h.w0, w1 := h.w1, r0 := r0, r1 := r1, t0 := h.t0, t1 := h.t1, c0 := by simp, c1 := by have := h.t0; dsimp only; omega, wt := by simp, n0 := b0, n1 := b1, a0 := by have := h.rto; dsimp only; omega, a1 := by have := h.rto; dsimp only; omega }
  · rw [if_neg hc]
    have hq : (q.data.length = 0 ∧ 0 < (bytesL x.fin n.toNat).length) = False := eq_false (by rw [bytesL_length]; omega)
    unfold BufS.write
    simp only [hq, if_false]
    have hs : decide (x.una < x.fin) = decide (x.una < x.fin + n) := decide_eq_decide.2 (by omega)
    exact { f0 := h.f0, f1 := h.f1, u := h.u, sent := h.sent, data := hd, window := h.window, rto := h.rto, tries := h.tries, wait := h.wait, count := h.count, alarm := fun hx => h.alarm (by dsimp only at hx; omega), al0 := fun hx => h.al0 (by dsimp only at hx; omega), set := h.set.trans hs, p0 := p0, p1 := p1, p2 := by dsimp only; omega, p3 := by dsimp only; omega, p4 := by dsimp only; omega, w0 := h.w0, w1 := h.w1, r0 := r0, r1 := r1, t0 := h.t0, t1 := h.t1, c0 := h.c0, c1 := h.c1, wt := h.wt, n0 := b0, n1 := b1, a0 := h.a0, a1 := h.a1 }

theorem Keeps.send (h : Keeps first q x now i) : Keeps first q.send x.send now i := by
  have hlen := h.len
  have p1 := h.p1
  have p2 := h.p2
  have hs := h.sent
  have hw := h.window
  have w0 := h.w0
  exact { h with sent := (by simp only [BufS.send, SentS.send, SentS.reach]; omega), p1 := (by simp only [SentS.send, SentS.reach]; omega), p2 := (by simp only [SentS.send, SentS.reach]; omega) }

theorem Keeps.acked (h : Keeps first q x now i) (hi : i ≤ 60) (ack w : Int) (hok : ¬ (ack < x.una ∨ x.nxt < ack ∨ 1073741824 < w)) (w0 : 0 ≤ w) (A : Option Addr) (c : Nat) :
    Keeps first (q.acked ((first + ack) % 4294967296) (ack - x.una).toNat w now A c) (x.acked ack w now) now i := by
  have hlen := h.len
  have p0 := h.p0
  have p1 := h.p1
  have p2 := h.p2
  have p3 := h.p3
  have p4 := h.p4
  have r0 := h.r0
  have r1 := h.r1
  have b0 := h.n0
  have b1 := h.n1
  have hs := h.sent
  have hr := h.rto
  unfold SentS.acked BufS.acked
  rw [if_neg hok]
  by_cases hc : x.una < ack
  · rw [if_pos hc, if_pos (by omega)]
    have hd : q.data.drop (ack - x.una).toNat = bytesL ack (x.fin - ack).toNat := by
      rw [h.data, bytesL_drop _ _ _ (by omega)]
      rw [show x.una + ((ack - x.una).toNat : Int) = ack by omega, show (x.fin - x.una).toNat - (ack - x.una).toNat = (x.fin - ack).toNat by omega]
    unfold SentS.anew
    exact { f0 := h.f0, f1 := h.f1, u := rfl, sent := by dsimp only; omega, data := hd, window := rfl, rto := h.rto, tries := h.tries, wait := h.rto, count := rfl, alarm := fun hx => by dsimp only at hx ⊢; rw [if_pos hx, h.rto], al0 := fun hx => by dsimp only at hx ⊢; rw [if_neg hx], set := rfl, p0 := by dsimp only; omega, p1 := by dsimp only; omega, p2 := by dsimp only; omega, p3 := by dsimp only; omega, p4 := p4, w0 := w0, w1 := by dsimp only; omega, r0 := r0, r1 := r1, t0 := h.t0, t1 := h.t1, c0 := by simp, c1 := by have := h.t0; dsimp only; omega, wt := by simp, n0 := b0, n1 := b1, a0 := by dsimp only; omega, a1 := by dsimp only; omega }
  · rw [if_neg hc, if_neg (by omega)]
    have : ack = x.una := by omega
    subst this
    exact { h with window := rfl, w0 := w0, w1 := by dsimp only; omega }

theorem Keeps.tick (h : Keeps first q x now i) (hi : i ≤ 60) (mss : Int) (hm : mayB mss = true) (hk : x.ticks now = true) :
    Keeps first (q.tick (max (min (min mss q.data.length) q.window) 1) now) (x.tick mss now) now i := by
  have hlen := h.len
  have p0 := h.p0
  have p1 := h.p1
  have p2 := h.p2
  have b0 := h.n0
  have b1 := h.n1
  have hs := h.sent
  have hw := h.window
  have hwt := h.wait
  have hco := h.count
  unfold mayB at hm
  simp only [Bool.and_eq_true, decide_eq_true_eq] at hm
  have hk' := hk
  unfold SentS.ticks at hk'
  simp only [Bool.and_eq_true, decide_eq_true_eq, Bool.not_eq_true', beq_eq_false_iff_ne, h.set] at hk'
  obtain ⟨⟨hlt, hal⟩, hct⟩ := hk'
  have c0 := h.c0
  have c1 := h.c1
  have t1 := h.t1
  have hpow : x.wait * 2 = x.rto * 2 ^ (x.count + 1).toNat := by
    rw [h.wt, show (x.count + 1).toNat = x.count.toNat + 1 by omega, Int.pow_succ, Int.mul_assoc]
  have hp := pow_le (n := (x.count + 1).toNat) (by omega)
  have r0 := h.r0
  have r1 := h.r1
  have hle : 0 ≤ x.wait * 2 ∧ x.wait * 2 ≤ 1099511627776 := by
    rw [hpow]
    exact ⟨Int.mul_nonneg (by omega) (by omega), Int.le_trans (Int.mul_le_mul r1 hp.1 (by omega) (by omega)) (by omega)⟩
  unfold SentS.tick SentS.tickTo BufS.tick
  rw [if_pos hk]
  exact { h with sent := by dsimp only; omega, wait := by dsimp only; omega, count := by dsimp only; omega, alarm := fun _ => by dsimp only; rw [hwt], al0 := fun hx => absurd hlt hx, p1 := by dsimp only; omega, p2 := by dsimp only; omega, c0 := by dsimp only; omega, c1 := by dsimp only; omega, wt := hpow, a0 := by dsimp only; omega, a1 := by dsimp only; omega }
end
end Go.Proofs.Ytnpmelonkcgpgad

