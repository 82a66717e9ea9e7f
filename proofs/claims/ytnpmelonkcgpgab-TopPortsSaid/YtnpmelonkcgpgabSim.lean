/- The plain law of TopPorts: what the noter notes, and what the pool holds, go together. No program in sight. -/
import Derived.Test.YtnpmelonkcgpgabNote
namespace Go.Proofs.Ytnpmelonkcgpgab
open Go.RowKit
set_option linter.unusedVariables false
set_option linter.unusedSimpArgs false

/-- An act: its kind, which one, how many ticks. -/
abbrev Act3 := Int × Int × Int

def actNow (xnow ticks : Int) : Int := if ticks < 0 ∧ xnow < -ticks then 1099511627776 + -ticks else xnow + ticks
def actPort (lo hi which : Int) : Int := lo - 1 + which % (hi - lo + 3)

/-- What the noter notes of an act, and whether a port was taken. -/
def noteStep (x : NoteS) (a : Act3) : NoteS × Int :=
  let now := actNow x.now a.2.2
  let at_ := max now x.now
  let port := actPort x.low x.high a.2.1
  let k := a.1 % 6
  if k = 0 ∨ k = 1 then
    if 1099511627776 < now then (x, 0)
    else if (x.leastTo at_ (x.high - x.low + 1).toNat).2 = 0 then ({ x with now := at_ }, 0)
    else ({ x with now := at_, taken := aput (x.leastTo at_ (x.high - x.low + 1).toNat).1 true x.taken }, 1)
  else if k = 2 ∨ k = 3 then
    if 1099511627776 < now then (x, 0)
    else if aget port false x.taken = false then (x, 0)
    else ({ x with now := at_, taken := aput port false x.taken, fre := aput port (at_ + x.rest) x.fre }, 0)
  else if k = 4 then
    if 1099511627776 < now then (x, 0) else ({ x with now := at_ }, 0)
  else (x, 0)

def noteRun (x : NoteS) : List Act3 → Int
  | [] => 0
  | a :: l => (noteStep x a).2 + noteRun (noteStep x a).1 l
def noteEnd (x : NoteS) : List Act3 → NoteS
  | [] => x
  | a :: l => noteEnd (noteStep x a).1 l

/-- What the pool holds goes with what is noted. -/
structure Goes (lo hi rest : Int) (p : PoolS) (x : NoteS) : Prop where
  pl : p.low = lo
  ph : p.high = hi
  pr : p.rest = rest
  xl : x.low = lo
  xh : x.high = hi
  xr : x.rest = rest
  now : p.now = x.now
  now0 : 0 ≤ x.now
  now1 : x.now ≤ 1099511627776
  tk : ∀ k, aget k false p.taken = aget k false x.taken
  fr : ∀ k, aget k false x.taken = false → aget k 0 p.til = aget k 0 x.fre
  keys : ∀ q ∈ p.taken, q.2 = true ∧ lo ≤ q.1 ∧ q.1 ≤ hi
  nd : (p.taken.map Prod.fst).Nodup

section
variable {lo hi rest : Int} {p : PoolS} {x : NoteS}

theorem Goes.free (h : Goes lo hi rest p x) (now k : Int) : (p.at_ now).free k = x.free (max now x.now) k := by
  unfold PoolS.free NoteS.free PoolS.at_
  dsimp only
  rw [h.tk k, h.now, Int.max_comm]
  cases ht : aget k false x.taken
  · rw [h.fr k ht]
  · simp

/-- The least port and how many: none is free, or the least one is. -/
theorem least_spec (x : NoteS) (now : Int) : ∀ i, ((x.leastTo now i).2 = 0 ∧ ∀ j : Nat, j < i → x.free now (x.high - j) = false) ∨
    (0 < (x.leastTo now i).2 ∧ ∃ j : Nat, j < i ∧ (x.leastTo now i).1 = x.high - j ∧ x.free now (x.high - j) = true ∧ ∀ m : Nat, j < m → m < i → x.free now (x.high - m) = false)
  | 0 => .inl ⟨rfl, fun j hj => by omega⟩
  | i + 1 => by
    simp only [NoteS.leastTo]
    have hle := x.leastTo_le now i
    cases hf : x.free now (x.high - i)
    · simp only [Bool.false_eq_true, if_false]
      rcases least_spec x now i with ⟨h1, h2⟩ | ⟨h1, j, hj, h2, h3, h4⟩
      · refine .inl ⟨h1, fun j hj => ?_⟩
        by_cases hji : j = i
        · subst hji; exact hf
        · exact h2 j (by omega)
      · refine .inr ⟨h1, j, by omega, h2, h3, fun m hm hmi => ?_⟩
        by_cases hmi' : m = i
        · subst hmi'; exact hf
        · exact h4 m hm (by omega)
    · simp only [if_true]
      exact .inr ⟨by omega, i, by omega, rfl, hf, fun m hm hmi => by omega⟩

/-- How many are free, counted from below and from above. -/
theorem count_same (x : NoteS) (p : PoolS) (now : Int) (hp : p.low = x.low) (hf : ∀ k, p.free k = x.free now k) (n : Nat) (hn : x.low + n = x.high + 1) : ∀ i, i ≤ n → p.freeTo n = (x.leastTo now i).2 + p.freeTo (n - i)
  | 0, _ => by simp [NoteS.leastTo]
  | i + 1, hi => by
    rw [count_same x p now hp hf n hn i (by omega)]
    obtain ⟨m, hm⟩ : ∃ m, n - i = m + 1 := ⟨n - i - 1, by omega⟩
    rw [hm, show n - (i + 1) = m by omega]
    simp only [PoolS.freeTo, NoteS.leastTo]
    rw [hf, hp, show x.low + (m : Int) = x.high - (i : Int) by omega]
    split <;> (try dsimp only) <;> omega

/-- How many ports are noted as taken, of the first i. -/
def takenTo (f : Int → Bool) (from_ : Int) : Nat → Int
  | 0 => 0
  | i + 1 => if f (from_ + i) then takenTo f from_ i + 1 else takenTo f from_ i
theorem takenTo_le (f : Int → Bool) (from_ : Int) : ∀ i, 0 ≤ takenTo f from_ i ∧ takenTo f from_ i ≤ i
  | 0 => ⟨Int.le_refl _, Int.le_refl _⟩
  | i + 1 => by have := takenTo_le f from_ i; simp only [takenTo]; split <;> omega

theorem takenTo_nil (from_ : Int) : ∀ i, takenTo (fun _ => false) from_ i = 0
  | 0 => rfl
  | i + 1 => by simp [takenTo, takenTo_nil from_ i]
theorem takenTo_congr {f g : Int → Bool} {from_ : Int} : ∀ {i : Nat}, (∀ j : Nat, j < i → f (from_ + j) = g (from_ + j)) → takenTo f from_ i = takenTo g from_ i
  | 0, _ => rfl
  | i + 1, h => by
    simp only [takenTo]
    rw [h i (by omega), takenTo_congr fun j hj => h j (by omega)]
/-- One more. -/
theorem takenTo_more {f : Int → Bool} {from_ k : Int} (hf : f k = false) : ∀ {i : Nat}, from_ ≤ k → k < from_ + i → takenTo (fun y => if y = k then true else f y) from_ i = takenTo f from_ i + 1
  | 0, h1, h2 => by omega
  | i + 1, h1, h2 => by
    simp only [takenTo]
    by_cases hk : from_ + (i : Int) = k
    · simp only [hk, if_true, hf, Bool.false_eq_true, if_false]
      congr 1
      exact takenTo_congr fun j hj => by rw [if_neg (by omega)]
    · simp only [if_neg hk]
      rw [takenTo_more hf h1 (by omega)]
      split <;> rfl

/-- As many keys as ports that are taken. -/
theorem count_keys : ∀ (l : List (Int × Bool)) (from_ : Int) (n : Nat), (∀ q ∈ l, q.2 = true ∧ from_ ≤ q.1 ∧ q.1 < from_ + n) → (l.map Prod.fst).Nodup → takenTo (fun k => aget k false l) from_ n = l.length
  | [], from_, n, _, _ => by
    simp only [aget]
    exact takenTo_nil from_ n
  | q :: l, from_, n, h, hnd => by
    simp only [List.map_cons, List.nodup_cons] at hnd
    obtain ⟨h1, h2, h3⟩ := h q (by simp)
    have ih := count_keys l from_ n (fun q hq => h q (by simp [hq])) hnd.2
    have hq : aget q.1 false l = false := aget_none (by
      cases hh : ahas q.1 l
      · rfl
      · exact absurd (ahas_mem.1 hh) hnd.1)
    have := takenTo_more (f := fun k => aget k false l) hq h2 h3
    simp only [aget, h1]
    rw [this, ih]
    simp

theorem Goes.count (h : Goes lo hi rest p x) (h0 : lo ≤ hi) (n : Nat) (hn : lo - 1 + n = hi + 2) : takenTo (fun k => aget k false x.taken) (lo - 1) n = p.taken.length := by
  rw [← count_keys p.taken (lo - 1) n (fun q hq => by have := h.keys q hq; exact ⟨this.1, by omega, by omega⟩) h.nd]
  exact takenTo_congr fun j hj => (h.tk _).symm

theorem aput_mem {κ β : Type} [DecidableEq κ] {x : κ} {v : β} {q : κ × β} : ∀ {l : List (κ × β)}, q ∈ aput x v l → q = (x, v) ∨ q ∈ l
  | [], h => by simp [aput] at h; exact .inl h
  | y :: l, h => by
    simp only [aput] at h
    split at h
    · rcases List.mem_cons.1 h with h | h
      · exact .inl h
      · exact .inr (List.mem_cons_of_mem _ h)
    · rcases List.mem_cons.1 h with h | h
      · exact .inr (h ▸ List.mem_cons_self)
      · rcases aput_mem h with h | h
        · exact .inl h
        · exact .inr (List.mem_cons_of_mem _ h)

theorem Goes.take (h : Goes lo hi rest p x) (now k : Int) (hn1 : now ≤ 1099511627776) (hk0 : lo ≤ k) (hk1 : k ≤ hi) :
    Goes lo hi rest ((p.at_ now).take k) { x with now := max now x.now, taken := aput k true x.taken } := by
  refine ⟨h.pl, h.ph, h.pr, h.xl, h.xh, h.xr, ?_, ?_, ?_, fun j => ?_, fun j hj => ?_, fun q hq => ?_, aput_nodup h.nd⟩
  · show max p.now now = max now x.now; rw [h.now, Int.max_comm]
  · have := h.now0; show 0 ≤ max now x.now; omega
  · have := h.now1; show max now x.now ≤ _; omega
  · show aget j false (aput k true p.taken) = aget j false (aput k true x.taken)
    rw [aget_put, aget_put, h.tk j]
  · have hj' : aget j false (aput k true x.taken) = false := hj
    rw [aget_put] at hj'
    by_cases hjk : j = k
    · rw [if_pos hjk] at hj'; cases hj'
    · rw [if_neg hjk] at hj'
      show aget j 0 (adel k p.til) = aget j 0 x.fre
      rw [← h.fr j hj']
      exact aget_del_other hjk
  · rcases aput_mem hq with rfl | hq
    · exact ⟨rfl, hk0, hk1⟩
    · exact h.keys q hq

theorem Goes.tick (h : Goes lo hi rest p x) (now : Int) (hn1 : now ≤ 1099511627776) : Goes lo hi rest (p.at_ now) { x with now := max now x.now } := by
  refine ⟨h.pl, h.ph, h.pr, h.xl, h.xh, h.xr, ?_, ?_, ?_, h.tk, h.fr, h.keys, h.nd⟩
  · show max p.now now = max now x.now; rw [h.now, Int.max_comm]
  · have := h.now0; show 0 ≤ max now x.now; omega
  · have := h.now1; show max now x.now ≤ _; omega

theorem Goes.give (h : Goes lo hi rest p x) (now k : Int) (hn1 : now ≤ 1099511627776) :
    Goes lo hi rest ((p.at_ now).give k) { x with now := max now x.now, taken := aput k false x.taken, fre := aput k (max now x.now + rest) x.fre } := by
  have he : max p.now now = max now x.now := by rw [h.now, Int.max_comm]
  refine ⟨h.pl, h.ph, h.pr, h.xl, h.xh, h.xr, ?_, ?_, ?_, fun j => ?_, fun j hj => ?_, fun q hq => h.keys q ((adel_sub _).subset hq), adel_nodup h.nd⟩
  · exact he
  · have := h.now0; show 0 ≤ max now x.now; omega
  · have := h.now1; show max now x.now ≤ _; omega
  · show aget j false (adel k p.taken) = aget j false (aput k false x.taken)
    rw [aget_put, aget_del k j false h.nd, h.tk j]
  · have hj' : aget j false (aput k false x.taken) = false := hj
    rw [aget_put] at hj'
    show aget j 0 (aput k (max p.now now + p.rest) p.til) = aget j 0 (aput k (max now x.now + rest) x.fre)
    rw [aget_put, aget_put, he, h.pr]
    by_cases hjk : j = k
    · rw [if_pos hjk, if_pos hjk]
    · rw [if_neg hjk] at hj'
      rw [if_neg hjk, if_neg hjk]
      exact h.fr j hj'
end
end Go.Proofs.Ytnpmelonkcgpgab
