/- Ranging over a map that does not turn while it is ranged over; no program in sight. -/
import Derived.Test.YtnpmelonkcgpgabMapW
import Derived.Maps.RangeRun
namespace Go.Proofs.Ytnpmelonkcgpgab
open Go.RowKit Go.ChangeMaps
set_option linter.unusedVariables false
set_option linter.unusedSimpArgs false

section
variable {κ β : Type} {P : Program} {w w' : World} {k e t : TypeId} {enc : κ → Value} {ev : β → Value} {b r : Nat} {l rem : List (κ × β)}

/-- Block r is an iterator over the map in block b, which holds l; rem is still to come. -/
def It (w : World) (enc : κ → Value) (ev : β → Value) (b r : Nat) (l rem : List (κ × β)) : Prop :=
  ∃ es clock seen, w.heap[b]? = some (.map es clock) ∧ w.heap[r]? = some (.mapIter (some b) clock seen clock) ∧
    es.toList.map (fun e => (e.key, e.val)) = l.map (fun p => (enc p.1, ev p.2)) ∧ (es.toList.map (·.born)).Nodup ∧ (∀ e ∈ es.toList, e.born < clock) ∧
    (es.toList.filter fun e => !seen.contains e.born).map (fun e => (e.key, e.val)) = rem.map (fun p => (enc p.1, ev p.2))

theorem It.lt (h : It w enc ev b r l rem) : b < w.heap.size ∧ r < w.heap.size ∧ b ≠ r := by
  obtain ⟨es, c, s, hb, hr, _⟩ := h
  refine ⟨heap_lt hb, heap_lt hr, ?_⟩
  rintro rfl
  rw [hb] at hr; cases hr
theorem It.of_blocks (h : It w enc ev b r l rem) (hb : w'.heap[b]? = w.heap[b]?) (hr : w'.heap[r]? = w.heap[r]?) : It w' enc ev b r l rem := by
  obtain ⟨es, c, s, h1, h2, h3⟩ := h
  exact ⟨es, c, s, hb.trans h1, hr.trans h2, h3⟩
theorem It.only {S : List Nat} (h : It w enc ev b r l rem) (ho : Only S w w') (hb : b ∉ S) (hr : r ∉ S) : It w' enc ev b r l rem :=
  h.of_blocks (ho.block b h.lt.1 hb) (ho.block r h.lt.2.1 hr)
theorem It.drew (h : It w enc ev b r l rem) : It w.drew enc ev b r l rem := h

/-- range m: a new iterator, all of it still to come. -/
theorem It.begin (h : Mp w enc ev b l) (ht : P.underlying t = some (.map k e)) :
    ∃ w', (Instr.range t (.map (some b))).run P w = .ok (.pointer (some ⟨w.heap.size, 0, none⟩)) w' ∧ It w' enc ev b w.heap.size l l ∧ w'.heap.size = w.heap.size + 1 ∧ Below w.heap.size w w' := by
  have hlt := h.lt
  obtain ⟨es, clock, hb, hes, hnd, hbn, hbc⟩ := h
  refine ⟨w.alloc (.mapIter (some b) clock #[] clock), ?_, ⟨es, clock, #[], ?_, heap_alloc_new w _, hes, hbn, hbc, ?_⟩, by simp, bel_alloc _⟩
  · simp [Instr.range, run_underlying ht, MapKept.run_getObj_map hb, Result.andThen, newObj, go_sem]
    rfl
  · exact (Below.heap_alloc w _ b hlt).trans hb
  · rw [List.filter_eq_self.2 (by simp)]; exact hes

theorem run_getObj_it {m : Option Nat} {c : Nat} {s : Array Nat} {c' : Nat} (hb : w.heap[r]? = some (.mapIter m c s c')) : (getObj r).run P w = .ok (.mapIter m c s c') w := by
  simp [getObj, Sem.run, hb]

/-- Nothing is left. -/
theorem It.over (h : It w enc ev b r l []) (ty : TypeId) : (Instr.next (.pointer (some ⟨r, 0, none⟩)) false ty).run P w = .ok (.tuple #[.bool false]) w := by
  obtain ⟨es, clock, seen, hb, hr, hes, hbn, hbc, hrem⟩ := h
  have hnil : (es.toList.filter fun e => !seen.contains e.born) = [] := by simpa using hrem
  have hf : (es.filter fun e => !seen.contains e.born) = #[] := by
    apply Array.ext'
    simpa using hnil
  have hbad : (!seen.isEmpty && !es.isEmpty && es.all fun e => decide (e.born ≥ clock)) = false := by
    cases h1 : es.isEmpty
    · have hpos : 0 < es.size := by
        rcases Nat.eq_zero_or_pos es.size with h0 | h0
        · rw [Array.isEmpty_iff_size_eq_zero.2 h0] at h1; cases h1
        · exact h0
      have : (es.all fun e => decide (e.born ≥ clock)) = false := by
        rw [Array.all_eq_false]
        exact ⟨0, hpos, by have := hbc es[0] (by simp); simp; omega⟩
      rw [this]; simp
    · simp
  unfold Instr.next
  simp only [Sem.run_bind, run_getObj_it hr, MapKept.run_getObj_map hb, Result.andThen, hf]
  simp only [hbad]
  simp [choose, Sem.run, Question.forced]

/-- The next one is one of those that are still to come. -/
theorem It.step (h : It w enc ev b r l rem) (hne : rem ≠ []) (ty : TypeId) :
    ∃ i, ∃ hi : i < rem.length, ∃ w', (Instr.next (.pointer (some ⟨r, 0, none⟩)) false ty).run P w = .ok (.tuple #[.bool true, enc (rem[i]).1, ev (rem[i]).2]) w' ∧
      (Instr.entry (.pointer (some ⟨r, 0, none⟩))).run P w' = .ok (.tuple #[enc (rem[i]).1, ev (rem[i]).2]) w' ∧ It w' enc ev b r l (rem.eraseIdx i) ∧ w'.heap.size = w.heap.size ∧ Only [r] w w' := by
  obtain ⟨hbl, hrl, hbr⟩ := h.lt
  obtain ⟨es, clock, seen, hb, hr, hes, hbn, hbc, hrem⟩ := h
  have hbad : (!seen.isEmpty && !es.isEmpty && es.all fun e => decide (e.born ≥ clock)) = false := by
    cases h1 : es.isEmpty
    · have hpos : 0 < es.size := by
        rcases Nat.eq_zero_or_pos es.size with h0 | h0
        · rw [Array.isEmpty_iff_size_eq_zero.2 h0] at h1; cases h1
        · exact h0
      have : (es.all fun e => decide (e.born ≥ clock)) = false := by
        rw [Array.all_eq_false]
        exact ⟨0, hpos, by have := hbc es[0] (by simp); simp; omega⟩
      rw [this]; simp
    · simp
  have hlen : (es.toList.filter fun e => !seen.contains e.born).length = rem.length := by simpa using congrArg List.length hrem
  have hpos : 0 < rem.length := List.length_pos_iff.2 hne
  have hold : (es.filter fun e => !seen.contains e.born).filter (fun e => decide (e.born < clock)) = es.filter fun e => !seen.contains e.born := by
    rw [Array.filter_eq_self]
    intro e he
    have := hbc e (by rw [Array.mem_filter] at he; simpa using he.1)
    simpa using this
  have hnew : (es.filter fun e => !seen.contains e.born).filter (fun e => decide (e.born ≥ clock)) = #[] := by
    rw [Array.filter_eq_empty_iff]
    intro e he
    have := hbc e (by rw [Array.mem_filter] at he; simpa using he.1)
    simp; omega
  have hsz : (es.filter fun e => !seen.contains e.born).size = rem.length := by rw [← hlen]; simp [← Array.length_toList]
  have hemp : (es.filter fun e => !seen.contains e.born).isEmpty = false := by
    cases h1 : (es.filter fun e => !seen.contains e.born).isEmpty
    · rfl
    · rw [Array.isEmpty_iff_size_eq_zero] at h1; omega
  -- what the draw gives
  obtain ⟨i, w1, hi, hrun, hh⟩ : ∃ i w1, i < rem.length ∧ (choose (.mapNext rem.length)).run P w = .ok i w1 ∧ (w1 = w ∨ w1 = w.drew) := by
    by_cases h1 : rem.length ≤ 1
    · exact ⟨0, w, hpos, by simp [choose, Sem.run, Question.forced, h1], .inl rfl⟩
    · refine ⟨_, w.drew, Nat.mod_lt (w.tape w.drawn (.mapNext rem.length)) hpos, ?_, .inr rfl⟩
      have hf : (Question.mapNext rem.length).forced = false := by simp [Question.forced, h1]
      unfold choose
      simp only [Sem.run, hf, Bool.false_eq_true, if_false]
      rfl
  have hw1 : w1.heap = w.heap := by rcases hh with rfl | rfl <;> rfl
  have hif : i < (es.filter fun e => !seen.contains e.born).size := by omega
  let en := (es.filter fun e => !seen.contains e.born)[i]
  have hen : (es.toList.filter fun e => !seen.contains e.born)[i]? = some en := by
    rw [← Array.toList_filter, Array.getElem?_toList, Array.getElem?_eq_getElem hif]
  have hpair : (en.key, en.val) = (enc (rem[i]).1, ev (rem[i]).2) := by
    have e1 : ((es.toList.filter fun e => !seen.contains e.born).map (fun e => (e.key, e.val)))[i]? = some (en.key, en.val) := by rw [List.getElem?_map, hen]; rfl
    rw [hrem, List.getElem?_map, List.getElem?_eq_getElem hi] at e1
    exact (Option.some.inj e1).symm
  have hkey : en.key = enc (rem[i]).1 := (Prod.mk.inj hpair).1
  have hval : en.val = ev (rem[i]).2 := (Prod.mk.inj hpair).2
  have hmem : en ∈ es.toList.filter fun e => !seen.contains e.born := List.mem_of_getElem? hen
  have hmem' : en ∈ es.toList := (List.mem_filter.1 hmem).1
  have hr1 : w1.heap[r]? = some (.mapIter (some b) clock seen clock) := by rw [hw1]; exact hr
  have hb1 : w1.heap[b]? = some (.map es clock) := by rw [hw1]; exact hb
  refine ⟨i, hi, setBlock w1 r (.mapIter (some b) clock (seen.push en.born) clock), ?_, ?_, ⟨es, clock, seen.push en.born, ?_, ?_, hes, hbn, hbc, ?_⟩, by simp [setBlock, hw1], ?_⟩
  · unfold Instr.next
    simp only [Sem.run_bind, run_getObj_it hr, MapKept.run_getObj_map hb, Result.andThen, hold, hnew]
    simp only [hbad, hemp]
    simp only [Bool.false_eq_true, if_false, Array.append_empty, Array.empty_append, Array.size_map, hsz, hrun, Sem.run_bind, Result.andThen, Sem.run_pure]
    simp only [Array.getElem?_map, Array.getElem?_eq_getElem hif, Option.map_some]
    simp only [Sem.run_bind, run_setObj_at hr1, Result.andThen, Sem.run_pure]
    show Result.ok (Value.tuple #[Value.bool true, en.key, en.val]) _ = _
    rw [hkey, hval]
  · have hr2 : (setBlock w1 r (.mapIter (some b) clock (seen.push en.born) clock)).heap[r]? = some (.mapIter (some b) clock (seen.push en.born) clock) := setBlock_at (by rw [hw1]; exact hrl)
    have hb2 : (setBlock w1 r (.mapIter (some b) clock (seen.push en.born) clock)).heap[b]? = some (.map es clock) := by
      simp only [setBlock, Array.getElem?_setIfInBounds]
      rw [if_neg (by rintro rfl; exact hbr rfl)]
      exact hb1
    have hfind : es.find? (fun e => e.born == en.born) = some en := by
      rw [← Array.find?_toList]
      have : ∀ (L : List MapEntry), (L.map (·.born)).Nodup → en ∈ L → L.find? (fun e => e.born == en.born) = some en := by
        intro L
        induction L with
        | nil => intro _ h; cases h
        | cons x L ih =>
          intro hnd hm
          simp only [List.map_cons, List.nodup_cons] at hnd
          rcases List.mem_cons.1 hm with rfl | hm
          · simp
          · have : ¬ x.born = en.born := fun he => hnd.1 (he ▸ List.mem_map.2 ⟨en, hm, rfl⟩)
            rw [List.find?_cons_of_neg (by simpa using this)]
            exact ih hnd.2 hm
      exact this _ hbn hmem'
    unfold Instr.entry
    simp only [Sem.run_bind, run_getObj_it hr2, Result.andThen, Array.back?_push, MapKept.run_getObj_map hb2]
    simp [hfind, hkey, hval]
  · simp only [setBlock, Array.getElem?_setIfInBounds]
    rw [if_neg (by rintro rfl; exact hbr rfl)]
    exact hb1
  · exact setBlock_at (by rw [hw1]; exact hrl)
  · -- what is left
    have key : ∀ (L : List MapEntry) (j : Nat) (x : MapEntry), (L.map (·.born)).Nodup → L[j]? = some x → L.filter (fun e => !(e.born == x.born)) = L.eraseIdx j := by
      intro L
      induction L with
      | nil => intro j x _ h; simp at h
      | cons y L ih =>
        intro j x hnd hj
        simp only [List.map_cons, List.nodup_cons] at hnd
        cases j with
        | zero =>
          simp only [List.getElem?_cons_zero, Option.some.injEq] at hj
          subst hj
          rw [List.filter_cons_of_neg (by simp)]
          simp only [List.eraseIdx_zero, List.tail_cons]
          rw [List.filter_eq_self]
          intro z hz
          have : ¬ z.born = y.born := fun he => hnd.1 (he ▸ List.mem_map.2 ⟨z, hz, rfl⟩)
          simpa using this
        | succ j =>
          simp only [List.getElem?_cons_succ] at hj
          have : ¬ y.born = x.born := fun he => hnd.1 (he ▸ List.mem_map.2 ⟨x, List.mem_of_getElem? hj, rfl⟩)
          rw [List.filter_cons_of_pos (by simpa using this), ih j x hnd.2 hj]
          rfl
    have h1 : (es.toList.filter fun e => !(seen.push en.born).contains e.born) = (es.toList.filter fun e => !seen.contains e.born).filter fun e => !(e.born == en.born) := by
      rw [List.filter_filter]
      congr 1
      funext e
      rw [Bool.eq_iff_iff]
      simp [Array.contains_push, and_comm]
    rw [h1, key _ i en ?_ hen, map_eraseIdx', hrem, ← map_eraseIdx']
    exact hbn.sublist ((List.filter_sublist).map _)
  · refine ⟨?_, ?_, ?_, by simp [setBlock, hw1], fun j hj hs => ?_⟩
    · rcases hh with rfl | rfl <;> rfl
    · rcases hh with rfl | rfl <;> rfl
    · rcases hh with rfl | rfl <;> rfl
    · simp only [setBlock, Array.getElem?_setIfInBounds]
      rw [if_neg (by rintro rfl; exact hs (by simp)), hw1]
end

/-! ### copying a map, one key and value after the other, in whatever order -/
section
variable {κ β : Type} [DecidableEq κ] {d : β} {l rem yl : List (κ × β)}

theorem aget_mem : ∀ {l : List (κ × β)}, (l.map Prod.fst).Nodup → ∀ q ∈ l, aget q.1 d l = q.2
  | [], _, q, h => by cases h
  | p :: l, hnd, q, h => by
    simp only [List.map_cons, List.nodup_cons] at hnd
    rcases List.mem_cons.1 h with rfl | h
    · simp [aget]
    · have : ¬ q.1 = p.1 := fun he => hnd.1 (he ▸ List.mem_map.2 ⟨q, h, rfl⟩)
      simp only [aget, if_neg this]
      exact aget_mem hnd.2 q h

theorem ahas_eraseIdx : ∀ {l : List (κ × β)} (i : Nat) (hi : i < l.length), (l.map Prod.fst).Nodup → ∀ k, ahas k (l.eraseIdx i) = (ahas k l && !decide (k = (l[i]).1))
  | p :: l, 0, hi, hnd, k => by
    simp only [List.map_cons, List.nodup_cons] at hnd
    simp only [List.eraseIdx_zero, List.tail_cons, ahas, List.getElem_cons_zero]
    by_cases h : k = p.1
    · have : ahas k l = false := by
        cases hh : ahas k l
        · rfl
        · exact absurd (h ▸ ahas_mem.1 hh) hnd.1
      rw [if_pos h, this, decide_eq_true h]; rfl
    · simp [h]
  | p :: l, i + 1, hi, hnd, k => by
    have hnd0 := hnd
    simp only [List.map_cons, List.nodup_cons] at hnd
    have hi' : i < l.length := by simpa using hi
    simp only [List.eraseIdx_cons_succ, ahas, List.getElem_cons_succ]
    by_cases h : k = p.1
    · have : ¬ k = (l[i]).1 := fun he => hnd.1 (h ▸ he ▸ List.mem_map.2 ⟨l[i], List.getElem_mem _, rfl⟩)
      rw [if_pos h, if_pos h, decide_eq_false this]; rfl
    · simp only [if_neg h]
      exact ahas_eraseIdx i hi' hnd.2 k

/-- yl is what has been copied of l; rem is still to come. -/
structure Cpd (d : β) (l rem yl : List (κ × β)) : Prop where
  nd : (rem.map Prod.fst).Nodup
  mem : ∀ q ∈ rem, aget q.1 d l = q.2
  get : ∀ k, aget k d yl = if ahas k rem then d else aget k d l

theorem Cpd.start (h : (l.map Prod.fst).Nodup) : Cpd d l l [] :=
  ⟨h, aget_mem h, fun k => by
    cases hh : ahas k l
    · simp [aget, aget_none hh]
    · simp [aget]⟩
theorem Cpd.step (h : Cpd d l rem yl) (i : Nat) (hi : i < rem.length) : Cpd d l (rem.eraseIdx i) (aput (rem[i]).1 (rem[i]).2 yl) := by
  refine ⟨h.nd.sublist ((List.eraseIdx_sublist _ _).map _), fun q hq => h.mem q ((List.eraseIdx_sublist _ _).subset hq), fun k => ?_⟩
  rw [aget_put, ahas_eraseIdx i hi h.nd, h.get k]
  by_cases hk : k = (rem[i]).1
  · have := h.mem _ (List.getElem_mem hi)
    simp [hk, this]
  · simp [hk]
theorem Cpd.done (h : Cpd d l [] yl) (k : κ) : aget k d yl = aget k d l := by simpa [ahas] using h.get k
end
end Go.Proofs.Ytnpmelonkcgpgab
