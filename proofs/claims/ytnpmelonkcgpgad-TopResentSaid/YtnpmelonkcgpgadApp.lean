/- append onto a slice that the call itself made, said of lists; no program in sight. -/
import Derived.Test.YtnpmelonkcgpgadMapW
import Derived.Maps.AppendAt
import Derived.RegionTactic
import Derived.OwnWalk
namespace Go.Proofs.Ytnpmelonkcgpgad
open Go.RowKit
set_option linter.unusedVariables false
set_option linter.unusedSimpArgs false

/-- A slice of one-cell elements that the call made. -/
def Ow (w : World) (base : Nat) (e : TypeId) (v : Value) (xs : List Value) : Prop := w.ownsRow base e 1 v xs.length xs

section
variable {P : Program} {w w' : World} {base : Nat} {e : TypeId} {v : Value} {xs ys : List Value}
theorem Ow.nil (w : World) (base : Nat) (e : TypeId) : Ow w base e (.slice none 0 0) [] := ⟨by simp, .inl ⟨rfl, rfl⟩⟩
/-- What it is like. -/
theorem Ow.form (h : Ow w base e v xs) : ∃ A c, v = .slice A xs.length c ∧ Sl w A xs ∧ xs.length ≤ c ∧ c ≤ maxLen ∧ (∀ a, A = some a → base ≤ a.block ∧ a.block < w.heap.size ∧ ∃ cs, Blk w a.block e cs) ∧ (A = none → xs = [] ∧ c = 0) := by
  rcases h.2 with ⟨rfl, h0⟩ | ⟨g, cap, cur, rfl, hb, hg, hn, hc, hs, ht⟩
  · have : xs = [] := List.eq_nil_of_length_eq_zero h0
    subst this
    exact ⟨none, 0, rfl, Sl.nil _ _, Nat.le_refl _, Nat.zero_le _, (fun _ h => by cases h), (fun _ => ⟨rfl, rfl⟩)⟩
  · refine ⟨some ⟨g, 0, none⟩, cap, rfl, fun _ => ⟨g, 0, rfl, fun j u hj => ?_⟩, hn, hc, (fun a ha => by obtain rfl := Option.some.inj ha; exact ⟨hb, heap_lt hg, cur, hg⟩), (fun h => by cases h)⟩
    have hc := Blk.cell (w := w) (g := g) (t := e) (cs := cur) hg (0 + j)
    rw [hc, Nat.zero_add]
    rw [← ht, List.getElem?_take] at hj
    split at hj
    · rw [← Array.getElem?_toList]; exact hj
    · cases hj
theorem Ow.far (h : Ow w base e v xs) {p : Addr} (hp : p.block < base) (u : Value) : Ow (w.setCell p u) base e v xs := by
  refine ⟨h.1, ?_⟩
  rcases h.2 with h2 | ⟨g, cap, cur, hv, hb, hg, rest⟩
  · exact .inl h2
  · exact .inr ⟨g, cap, cur, hv, hb, (Below.heap_setCell w p u g (by omega)).trans hg, rest⟩
theorem Ow.low {b2 : Nat} (h : Ow w base e v xs) (hb : b2 ≤ base) : Ow w b2 e v xs := by
  refine ⟨h.1, ?_⟩
  rcases h.2 with h2 | ⟨g, cap, cur, hv, hbg, rest⟩
  · exact .inl h2
  · exact .inr ⟨g, cap, cur, hv, by omega, rest⟩
/-- append(v, y...). -/
theorem Ow.app (h : Ow w base e v xs) (t ty : TypeId) {i : TypeInfo} {z : Value} {by_ : Nat} (ht : P.underlying t = some (.slice e)) (hi : P.info? e = some i) (hz : i.zero = some z) (hs : i.size = 1) (hby : i.bytes = by_) (hzs : z.cells.size = 1)
    {A : Option Addr} (c : Nat) (hy : Sl w A ys) (h1 : ∀ u ∈ ys, u.oneCell' = true) (hlen : xs.length + ys.length ≤ 16777216) (hb : by_ ≤ 64) (hbase : base ≤ w.heap.size) :
    ∃ v' w', (Builtin.append_ #[t, t] ty #[v, .slice A ys.length c]).run P w = .ok v' w' ∧ Ow w' base e v' (xs ++ ys) ∧ Below base w w' := by
  have fin : ∀ {v' : Value} {w' : World}, w.grownBy w' v.ownBlock → Below base w w' := fun hg => by
    refine ⟨hg.os, hg.tape, hg.output, hg.size, fun k hk => hg.block k (by omega) ?_⟩
    rcases h.2 with ⟨rfl, _⟩ | ⟨g, cap, cur, rfl, hbg, _⟩
    · simp [Value.ownBlock]
    · simp [Value.ownBlock]; omega
  rcases Nat.eq_zero_or_pos ys.length with h0 | hp
  · have : ys = [] := List.eq_nil_of_length_eq_zero h0
    subst this
    rcases A with _ | a
    · refine ⟨v, w, ?_, by simpa using h, ⟨rfl, rfl, rfl, Nat.le_refl _, fun _ _ => rfl⟩⟩
      rcases h.2 with ⟨rfl, _⟩ | ⟨g, cap, cur, rfl, _, _, hnc, _⟩
      · simp [Builtin.append_, run_underlying ht, sizeOf, typeInfo, hi, Builtin.lenOf, Builtin.firstCells, Result.andThen]
      · simp [Builtin.append_, run_underlying ht, sizeOf, typeInfo, hi, Builtin.lenOf, Builtin.firstCells, hnc, storeCells, Result.andThen]
    · obtain ⟨v', w', hr, ho, hg, _⟩ := run_append_own_at (P := P) w base t ty e i z 1 by_ ht hi hz hs hby hzs (by omega) v xs.length xs h a 0 c [] (by simp) (by simp) (by simp) (by simp only [maxLen]; omega) (by have : (xs.length + 0) * by_ ≤ 16777216 * 64 := Nat.mul_le_mul (by omega) hb; omega) hbase
      exact ⟨v', w', hr, by simpa [Ow] using ho, fin (v' := v') hg⟩
  · obtain ⟨b, o, rfl, hc⟩ := hy hp
    have e2 : ∀ j : Nat, (⟨b, o, none⟩ : Addr).add j = ⟨b, o + j, none⟩ := fun j => by unfold Addr.add; split <;> simp_all
    obtain ⟨v', w', hr, ho, hg, _⟩ := run_append_own_at (P := P) w base t ty e i z 1 by_ ht hi hz hs hby hzs (by omega) v xs.length xs h ⟨b, o, none⟩ ys.length c ys (by simp) (fun j u hj => by rw [e2]; exact hc j u hj) h1 (by simp only [maxLen]; omega) (by have : (xs.length + ys.length) * by_ ≤ 16777216 * 64 := Nat.mul_le_mul hlen hb; omega) hbase
    exact ⟨v', w', hr, by unfold Ow; rw [List.length_append]; exact ho, fin (v' := v') hg⟩
end
/-- In a walk: `(at_builtin; refine wpList_app _ _ rfl rfl rfl rfl hr ?_)`, hr the run equation. -/
theorem wpList_app {P : Program} {ops : Array Oper} {rest : List Oper} {o : Oper} {a : Act} {Q : Exit → Act → World → Prop} {w w' : World} {v u v' : Value} {t : TypeId} (s x : Operand) (hgd : o.guard = none)
    (ho : o.op = .call { callee := .builtin .append, args := #[s, x], argTypes := #[t, t] }) (hs : a.eval s = v) (hx : a.eval x = u) (hr : (Builtin.append_ #[t, t] o.type #[v, u]).run P w = .ok v' w')
    (h : wpList P ops Q rest (a.put o.dst v') w') : wpList P ops Q (o :: rest) a w :=
  wpList_plain hgd fun _ hK => by
    unfold Oper.wp execOp
    simp only [ho, resolve, invoke, builtin, Sem.run_bind, Sem.run_pure, Result.andThen_ok, List.map_toArray, List.map_cons, List.map_nil, hs, hx, hr]
    exact hK _ _ h
end Go.Proofs.Ytnpmelonkcgpgad
