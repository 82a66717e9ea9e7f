/- append onto a slice of elements of several cells that the call itself made; no program in sight. -/
import Derived.Test.YtnpmelonkcgpgadApp
namespace Go.Proofs.Ytnpmelonkcgpgad
open Go.RowKit
set_option linter.unusedVariables false
set_option linter.unusedSimpArgs false

/-- A slice of n elements of s cells that the call made. -/
def OwN (w : World) (base : Nat) (e : TypeId) (s : Nat) (v : Value) (n : Nat) (xs : List Value) : Prop := w.ownsRow base e s v n xs

section
variable {P : Program} {w w' : World} {base s n : Nat} {e : TypeId} {v : Value} {xs ys : List Value}
theorem OwN.nil (w : World) (base s : Nat) (e : TypeId) : OwN w base e s (.slice none 0 0) 0 [] := ⟨by simp, .inl ⟨rfl, rfl⟩⟩
theorem OwN.form (h : OwN w base e s v n xs) (hs : 0 < s) : ∃ A c, v = .slice A n c ∧ xs.length = n * s ∧ Sl w A xs ∧ n ≤ c ∧ c ≤ maxLen ∧ (∀ a, A = some a → base ≤ a.block ∧ a.block < w.heap.size ∧ a.off = 0 ∧ a.spot = none) ∧ (A = none → xs = [] ∧ n = 0 ∧ c = 0) := by
  rcases h.2 with ⟨rfl, h0⟩ | ⟨g, cap, cur, rfl, hb, hg, hn, hc, hz, ht⟩
  · subst h0
    have : xs = [] := List.eq_nil_of_length_eq_zero (by simpa using h.1)
    subst this
    exact ⟨none, 0, rfl, by simp, Sl.nil _ _, Nat.le_refl _, Nat.zero_le _, (fun _ h => by cases h), (fun _ => ⟨rfl, rfl, rfl⟩)⟩
  · refine ⟨some ⟨g, 0, none⟩, cap, rfl, h.1, fun _ => ⟨g, 0, rfl, fun j u hj => ?_⟩, hn, hc, (fun a ha => by obtain rfl := Option.some.inj ha; exact ⟨hb, heap_lt hg, rfl, rfl⟩), (fun h => by cases h)⟩
    have hc := Blk.cell (w := w) (g := g) (t := e) (cs := cur) hg (0 + j)
    rw [hc, Nat.zero_add]
    rw [← ht, List.getElem?_take] at hj
    split at hj
    · rw [← Array.getElem?_toList]; exact hj
    · cases hj
theorem OwN.far (h : OwN w base e s v n xs) {p : Addr} (hp : p.block < base) (u : Value) : OwN (w.setCell p u) base e s v n xs := by
  refine ⟨h.1, ?_⟩
  rcases h.2 with h2 | ⟨g, cap, cur, hv, hb, hg, rest⟩
  · exact .inl h2
  · exact .inr ⟨g, cap, cur, hv, hb, (Below.heap_setCell w p u g (by omega)).trans hg, rest⟩
theorem OwN.low {b2 : Nat} (h : OwN w base e s v n xs) (hb : b2 ≤ base) : OwN w b2 e s v n xs := by
  refine ⟨h.1, ?_⟩
  rcases h.2 with h2 | ⟨g, cap, cur, hv, hbg, rest⟩
  · exact .inl h2
  · exact .inr ⟨g, cap, cur, hv, by omega, rest⟩
/-- Worlds that leave all blocks alone that there were. -/
theorem OwN.below (h : OwN w base e s v n xs) (hb : Below w.heap.size w w') : OwN w' base e s v n xs := by
  refine ⟨h.1, ?_⟩
  rcases h.2 with h2 | ⟨g, cap, cur, hv, hbg, hg, rest⟩
  · exact .inl h2
  · exact .inr ⟨g, cap, cur, hv, hbg, (hb.block g (heap_lt hg)).trans hg, rest⟩
theorem OwN.only {S : List Nat} (h : OwN w base e s v n xs) (ho : Only S w w') (hS : ∀ g ∈ S, g < base) : OwN w' base e s v n xs := by
  refine ⟨h.1, ?_⟩
  rcases h.2 with h2 | ⟨g, cap, cur, hv, hbg, hg, rest⟩
  · exact .inl h2
  · exact .inr ⟨g, cap, cur, hv, hbg, (ho.block g (heap_lt hg) (fun hm => by have := hS g hm; omega)).trans hg, rest⟩
theorem OwN.drew (h : OwN w base e s v n xs) : OwN w.drew base e s v n xs := h
theorem OwN.drewN (h : OwN w base e s v n xs) (k : Nat) : OwN (w.drewN k) base e s v n xs := h
/-- append(v, y...), with what turns. -/
theorem OwN.app_at (h : OwN w base e s v n xs) (t ty : TypeId) {i : TypeInfo} {z : Value} {by_ : Nat} (ht : P.underlying t = some (.slice e)) (hi : P.info? e = some i) (hz : i.zero = some z) (hs : i.size = s) (hby : i.bytes = by_) (hzs : z.cells.size = s) (hs0 : 0 < s)
    {A : Option Addr} (m c : Nat) (hm : ys.length = m * s) (hy : Sl w A ys) (h1 : ∀ u ∈ ys, u.oneCell' = true) (hlen : n + m ≤ 16777216) (hb : by_ ≤ 256) (hbase : base ≤ w.heap.size) :
    ∃ v' w', (Builtin.append_ #[t, t] ty #[v, .slice A m c]).run P w = .ok v' w' ∧ OwN w' base e s v' (n + m) (xs ++ ys) ∧ w.grownBy w' v.ownBlock ∧ (v'.ownBlock = v.ownBlock ∨ v'.ownBlock = some w.heap.size) := by
  rcases Nat.eq_zero_or_pos m with h0 | hp
  · subst h0
    have : ys = [] := List.eq_nil_of_length_eq_zero (by simpa using hm)
    subst this
    rcases A with _ | a
    · refine ⟨v, w, ?_, by simpa using h, World.grownBy.refl _ _, .inl rfl⟩
      rcases h.2 with ⟨rfl, _⟩ | ⟨g, cap, cur, rfl, _, _, hnc, _⟩
      · simp [Builtin.append_, run_underlying ht, sizeOf, typeInfo, hi, Builtin.lenOf, Builtin.firstCells, Result.andThen]
      · simp [Builtin.append_, run_underlying ht, sizeOf, typeInfo, hi, Builtin.lenOf, Builtin.firstCells, hnc, storeCells, Result.andThen]
    · obtain ⟨v', w', hr, ho, hg, _, hv⟩ := run_append_own_at (P := P) w base t ty e i z s by_ ht hi hz hs hby hzs hs0 v n xs h a 0 c [] (by simp) (by simp) (by simp) (by simp only [maxLen]; omega) (by have : (n + 0) * by_ ≤ 16777216 * 256 := Nat.mul_le_mul (by omega) hb; omega) hbase
      exact ⟨v', w', hr, by simpa [OwN] using ho, hg, hv⟩
  · have hyp : 0 < ys.length := by rw [hm]; exact Nat.mul_pos hp hs0
    obtain ⟨b, o, rfl, hc⟩ := hy hyp
    have e2 : ∀ j : Nat, (⟨b, o, none⟩ : Addr).add j = ⟨b, o + j, none⟩ := fun j => by unfold Addr.add; split <;> simp_all
    obtain ⟨v', w', hr, ho, hg, _, hv⟩ := run_append_own_at (P := P) w base t ty e i z s by_ ht hi hz hs hby hzs hs0 v n xs h ⟨b, o, none⟩ m c ys hm (fun j u hj => by rw [e2]; exact hc j u hj) h1 (by simp only [maxLen]; omega) (by have : (n + m) * by_ ≤ 16777216 * 256 := Nat.mul_le_mul hlen hb; omega) hbase
    exact ⟨v', w', hr, ho, hg, hv⟩
theorem OwN.fin (h : OwN w base e s v n xs) (hg : w.grownBy w' v.ownBlock) (hbase : base ≤ w.heap.size) : Below base w w' := by
  refine ⟨hg.os, hg.tape, hg.output, hg.size, fun k hk => hg.block k (by omega) ?_⟩
  rcases h.2 with ⟨rfl, _⟩ | ⟨g, cap, cur, rfl, hbg, _⟩
  · simp [Value.ownBlock]
  · simp [Value.ownBlock]; omega
/-- Where its row lies. -/
theorem OwN.row_lt (h : OwN w base e s v n xs) {g : Nat} (hv : v.ownBlock = some g) : g < w.heap.size := by
  rcases h.2 with ⟨rfl, _⟩ | ⟨g', cap, cur, rfl, hbg, hg, _⟩
  · simp [Value.ownBlock] at hv
  · simp [Value.ownBlock] at hv; subst hv; exact heap_lt hg
/-- append(v, y...). -/
theorem OwN.app (h : OwN w base e s v n xs) (t ty : TypeId) {i : TypeInfo} {z : Value} {by_ : Nat} (ht : P.underlying t = some (.slice e)) (hi : P.info? e = some i) (hz : i.zero = some z) (hs : i.size = s) (hby : i.bytes = by_) (hzs : z.cells.size = s) (hs0 : 0 < s)
    {A : Option Addr} (m c : Nat) (hm : ys.length = m * s) (hy : Sl w A ys) (h1 : ∀ u ∈ ys, u.oneCell' = true) (hlen : n + m ≤ 16777216) (hb : by_ ≤ 256) (hbase : base ≤ w.heap.size) :
    ∃ v' w', (Builtin.append_ #[t, t] ty #[v, .slice A m c]).run P w = .ok v' w' ∧ OwN w' base e s v' (n + m) (xs ++ ys) ∧ Below base w w' := by
  obtain ⟨v', w', hr, ho, hg, _⟩ := h.app_at t ty ht hi hz hs hby hzs hs0 m c hm hy h1 hlen hb hbase
  exact ⟨v', w', hr, ho, h.fin hg hbase⟩
end

/-- Then blocks that are new. -/
theorem Only.trans_new {S T : List Nat} {a b c : World} (h : Only S a b) (k : Only T b c) (hT : ∀ g ∈ T, a.heap.size ≤ g) : Only S a c :=
  ⟨k.os.trans h.os, k.tape.trans h.tape, k.output.trans h.output, Nat.le_trans h.size k.size, fun i hi hs => (k.block i (Nat.lt_of_lt_of_le hi h.size) (fun hm => by have := hT i hm; omega)).trans (h.block i hi hs)⟩
theorem Only.grown {row : Option Nat} {a b : World} (h : a.grownBy b row) : Only row.toList a b :=
  ⟨h.os, h.tape, h.output, h.size, fun i hi hn => h.block i hi (fun e => hn (by rw [← e]; simp))⟩
theorem grown_of_below {row : Option Nat} {a b : World} (h : Below a.heap.size a b) : a.grownBy b row := ⟨h.os, h.tape, h.output, h.size, fun i hi _ => h.block i hi⟩
theorem OwN.row_ge {w : World} {base s n : Nat} {e : TypeId} {v : Value} {xs : List Value} (h : OwN w base e s v n xs) : ∀ g ∈ v.ownBlock.toList, base ≤ g := by
  intro g hg
  rcases h.2 with ⟨rfl, _⟩ | ⟨g', cap, cur, rfl, hbg, _⟩
  · simp [Value.ownBlock] at hg
  · simp [Value.ownBlock] at hg; omega

/-- In a region that draws, third argument of go_region_held3: `(refine step_app (.tmp i) (.tmp j) (by rfl) (by rfl) (by rfl) (by rfl) hr ?_)`, hr the run equation. -/
theorem step_app {P : Program} {ops : Array Oper} {o : Oper} {a : Act} {K : Act → World → Prop} {Q : Exit → Act → World → Prop} {E : Prop} {w w' : World} {v u v' : Value} {t : TypeId} (s x : Operand) (hgd : o.guard = none)
    (ho : o.op = .call { callee := .builtin .append, args := #[s, x], argTypes := #[t, t] }) (hs : a.eval s = v) (hx : a.eval x = u) (hr : (Builtin.append_ #[t, t] o.type #[v, u]).run P w = .ok v' w')
    (h : K (a.put o.dst v') w') : if Region.wanted o (yielded ops a.tmps) = true then Oper.wp P o a w K Q else E := by
  have hw : Region.wanted o (yielded ops a.tmps) = true := by simp [Region.wanted, hgd]
  rw [if_pos hw]
  unfold Oper.wp execOp
  simp only [ho, resolve, invoke, builtin, Sem.run_bind, Sem.run_pure, Result.andThen_ok, List.map_toArray, List.map_cons, List.map_nil, hs, hx, hr]
  exact h

/-- What is known of a type's row. -/
theorem info_some {P : Program} {t : TypeId} {z : Value} {s b : Nat} (h : (P.info? t).map (fun i => (i.zero, i.size, i.bytes)) = some (some z, s, b)) : ∃ i, P.info? t = some i ∧ i.zero = some z ∧ i.size = s ∧ i.bytes = b := by
  cases hi : P.info? t with
  | none => rw [hi] at h; cases h
  | some i => rw [hi] at h; simp at h; exact ⟨i, rfl, h.1, h.2.1, h.2.2⟩

/-- The cells of elements, one behind another. -/
theorem Sl.at {w : World} {A : Option Addr} {xs : List Value} (h : Sl w A xs) (hp : 0 < xs.length) : ∃ b o, A = some ⟨b, o, none⟩ ∧ ∀ j v, xs[j]? = some v → w.cell? ⟨b, o + j, none⟩ = some v := h hp
end Go.Proofs.Ytnpmelonkcgpgad
