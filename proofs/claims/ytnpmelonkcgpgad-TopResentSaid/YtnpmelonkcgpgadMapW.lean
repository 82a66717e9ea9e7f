/- What the operations on a map do to the world, said of lists of keys and values; no program in sight. -/
import Derived.Test.YtnpmelonkcgpgadMaps
namespace Go.Proofs.Ytnpmelonkcgpgad
open Go.RowKit Go.ChangeMaps
set_option linter.unusedVariables false
set_option linter.unusedSimpArgs false

/-- Of what was there nothing has turned but the blocks S. -/
structure Only (S : List Nat) (w w' : World) : Prop where
  os : w'.os = w.os
  tape : w'.tape = w.tape
  output : w'.output = w.output
  size : w.heap.size ≤ w'.heap.size
  block : ∀ k, k < w.heap.size → k ∉ S → w'.heap[k]? = w.heap[k]?

theorem Only.refl (S : List Nat) (w : World) : Only S w w := ⟨rfl, rfl, rfl, Nat.le_refl _, fun _ _ _ => rfl⟩
theorem Only.trans {S : List Nat} {a b c : World} (h : Only S a b) (k : Only S b c) : Only S a c :=
  ⟨k.os.trans h.os, k.tape.trans h.tape, k.output.trans h.output, Nat.le_trans h.size k.size, fun i hi hs => (k.block i (Nat.lt_of_lt_of_le hi h.size) hs).trans (h.block i hi hs)⟩
theorem Only.mono {S S' : List Nat} {a b : World} (h : Only S a b) (hs : ∀ k ∈ S, k < a.heap.size → k ∈ S') : Only S' a b :=
  ⟨h.os, h.tape, h.output, h.size, fun i hi hn => h.block i hi fun hm => hn (hs i hm hi)⟩
theorem Only.below {S : List Nat} {a b : World} (h : Below a.heap.size a b) : Only S a b := ⟨h.os, h.tape, h.output, h.size, fun i hi _ => h.block i hi⟩
theorem Only.toBelow {S : List Nat} {B : Nat} {a b : World} (h : Only S a b) (hB : B ≤ a.heap.size) (hs : ∀ k ∈ S, B ≤ k) : Below B a b :=
  ⟨h.os, h.tape, h.output, h.size, fun i hi => h.block i (by omega) fun hm => by have := hs i hm; omega⟩
theorem Only.alloc {S : List Nat} {a b : World} (h : Only S a b) (o : Obj) : Only S a (b.alloc o) := h.trans (Only.below (bel_alloc o))
theorem Only.drew {S : List Nat} {a b : World} (h : Only S a b) : Only S a b.drew := ⟨h.os, h.tape, h.output, h.size, h.block⟩
theorem Only.drewN {S : List Nat} {a b : World} (h : Only S a b) (n : Nat) : Only S a (b.drewN n) := ⟨h.os, h.tape, h.output, h.size, h.block⟩
theorem Only.setCell {S : List Nat} {a b : World} (h : Only S a b) {p : Addr} (hp : p.block ∈ S ∨ a.heap.size ≤ p.block) (u : Value) : Only S a (b.setCell p u) :=
  ⟨h.os, h.tape, h.output, by simpa [World.setCell] using h.size, fun i hi hs => (Below.heap_setCell _ _ _ _ (by rintro rfl; rcases hp with hp | hp; exact hs hp; omega)).trans (h.block i hi hs)⟩
theorem Only.cell {S : List Nat} {w w' : World} (h : Only S w w') {p : Addr} (hp : p.block < w.heap.size) (hs : p.block ∉ S) : w'.cell? p = w.cell? p := World.cell?_of_block (w := w) (h.block p.block hp hs)
theorem Only.frozen {S : List Nat} {w w' : World} (h : Only S w w') {p : Addr} (hp : p.block < w.heap.size) (hs : p.block ∉ S) : w'.frozen? p = w.frozen? p := World.frozen?_of_block (w := w) (h.block p.block hp hs)

/-- Block g is just the cells cs of element type t. -/
def Blk (w : World) (g : Nat) (t : TypeId) (cs : Array Value) : Prop := w.heap[g]? = some (.cells cs t (0, 0))

theorem heap_lt {w : World} {g : Nat} {o : Obj} (h : w.heap[g]? = some o) : g < w.heap.size := by
  rcases Nat.lt_or_ge g w.heap.size with h1 | h1
  · exact h1
  · rw [Array.getElem?_eq_none h1] at h; cases h

section
variable {w w' : World} {g : Nat} {t : TypeId} {cs : Array Value}
theorem Blk.lt (h : Blk w g t cs) : g < w.heap.size := heap_lt h
theorem Blk.cell (h : Blk w g t cs) (i : Nat) : w.cell? ⟨g, i, none⟩ = cs[i]? := cell_of_row w g i cs t (0, 0) h
theorem Blk.frozen (h : Blk w g t cs) (i : Nat) : w.frozen? ⟨g, i, none⟩ = false := by unfold Blk at h; simp [World.frozen?, h]
theorem Blk.new (w : World) (t : TypeId) (cs : Array Value) : Blk (w.alloc (.cells cs t)) w.heap.size t cs := heap_alloc_new w _
theorem Blk.new_at {n : Nat} (w : World) (t : TypeId) (cs : Array Value) (hn : n = w.heap.size) : Blk (w.alloc (.cells cs t)) n t cs := by subst hn; exact heap_alloc_new w _
theorem Blk.drew (h : Blk w g t cs) : Blk w.drew g t cs := h
theorem Blk.drewN (h : Blk w g t cs) (n : Nat) : Blk (w.drewN n) g t cs := h
theorem Blk.alloc (h : Blk w g t cs) (o : Obj) : Blk (w.alloc o) g t cs := (Below.heap_alloc w o g h.lt).trans h
theorem Blk.set_ (h : Blk w g t cs) (i : Nat) (u : Value) : Blk (w.setCell ⟨g, i, none⟩ u) g t (cs.setIfInBounds i u) := by
  unfold Blk at h ⊢
  simp [World.setCell, Array.getElem?_modify, h]
theorem Blk.far (h : Blk w g t cs) {p : Addr} (hp : g ≠ p.block) (u : Value) : Blk (w.setCell p u) g t cs := (Below.heap_setCell w p u g hp).trans h
theorem Blk.only {S : List Nat} (h : Blk w g t cs) (ho : Only S w w') (hs : g ∉ S) : Blk w' g t cs := (ho.block g h.lt hs).trans h
theorem Blk.below {B : Nat} (h : Blk w g t cs) (ho : Below B w w') (hs : g < B) : Blk w' g t cs := (ho.block g hs).trans h
end

theorem cell_far {w : World} {g i : Nat} {v : Value} {p : Addr} {u : Value} (h : w.cell? ⟨g, i, none⟩ = some v) (hne : ¬ g = p.block) : (w.setCell p u).cell? ⟨g, i, none⟩ = some v :=
  (World.cell?_setCell_other w p ⟨g, i, none⟩ u (fun e => hne (by rw [e]))).trans h

/-! ### keys -/
/-- How a key's type is asked: the keys that are written by enc. -/
structure KeyOk {κ : Type} (P : Program) (k : TypeId) (enc : κ → Value) : Prop where
  inj : ∀ {x y : κ}, enc x = enc y → x = y
  check : ∀ (w : World) (em : Bool) (x : κ), (Instr.checkKey em 10000 k (enc x)).run P w = .ok () w
  find : ∀ (w : World) (x : κ) (es : List MapEntry), (∀ e ∈ es, ∃ y, e.key = enc y) →
    ((Instr.findKey k (enc x) es).run P w = .ok none w ∧ ∀ e ∈ es, e.key ≠ enc x) ∨ ∃ j e, (Instr.findKey k (enc x) es).run P w = .ok (some (j, e.val)) w ∧ es[j]? = some e ∧ e.key = enc x
  stays : ∀ (w : World) (x : κ), (Instr.keyThatStays (enc x) (enc x)).run P w = .ok (enc x) w

theorem findNow_int (q : IntKind) (x : Int) : ∀ (es : List MapEntry) (i : Nat), (∀ e ∈ es, ∃ y, e.key = .int q y) →
    (Instr.findNow (.int q) (.int q x) es i = some none ∧ ∀ e ∈ es, e.key ≠ .int q x) ∨ ∃ j e, Instr.findNow (.int q) (.int q x) es i = some (some (i + j, e.val)) ∧ es[j]? = some e ∧ e.key = .int q x
  | [], i, _ => .inl ⟨rfl, by simp⟩
  | e :: es, i, h => by
    obtain ⟨y, hy⟩ := h e (by simp)
    by_cases hxy : x = y
    · refine .inr ⟨0, e, ?_, rfl, by rw [hy, hxy]⟩
      simp [Instr.findNow, hy, Instr.sameNow, hxy]
    · have hne : (x == y) = false := by simpa using hxy
      rcases findNow_int q x es (i + 1) (fun e he => h e (by simp [he])) with ⟨h1, h2⟩ | ⟨j, e', h1, h2, h3⟩
      · refine .inl ⟨by simp [Instr.findNow, hy, Instr.sameNow, hne, h1], ?_⟩
        intro e' he'
        rcases List.mem_cons.1 he' with rfl | he'
        · rw [hy]; intro hh; injection hh with _ hh; exact hxy hh.symm
        · exact h2 e' he'
      · exact .inr ⟨j + 1, e', by simp [Instr.findNow, hy, Instr.sameNow, hne, h1]; omega, by simpa using h2, h3⟩

theorem int_key {P : Program} {k : TypeId} {q : IntKind} (hk : P.underlying k = some (.int q)) : KeyOk P k (Value.int q) where
  inj := fun h => by injection h
  check := fun w em x => by unfold Instr.checkKey; simp [run_underlying hk]
  find := fun w x es h => by
    unfold Instr.findKey
    rcases findNow_int q x es 0 h with ⟨h1, h2⟩ | ⟨j, e, h1, h2, h3⟩
    · exact .inl ⟨by simp [run_underlying hk, h1], h2⟩
    · exact .inr ⟨j, e, by simp [run_underlying hk, h1], h2, h3⟩
  stays := fun w x => by simp [Instr.keyThatStays, Instr.sameBits]

/-! ### a map's block -/
section
variable {κ β : Type} {P : Program} {w w' : World} {k e t : TypeId} {enc : κ → Value} {ev : β → Value} {b : Nat} {l : List (κ × β)}

/-- Block b is a map that holds l, laid in that order. -/
def Mp (w : World) (enc : κ → Value) (ev : β → Value) (b : Nat) (l : List (κ × β)) : Prop :=
  ∃ es clock, w.heap[b]? = some (.map es clock) ∧ es.toList.map (fun e => (e.key, e.val)) = l.map (fun p => (enc p.1, ev p.2)) ∧ (l.map Prod.fst).Nodup ∧
    (es.toList.map (·.born)).Nodup ∧ ∀ e ∈ es.toList, e.born < clock

theorem Mp.lt (h : Mp w enc ev b l) : b < w.heap.size := by obtain ⟨_, _, hb, _⟩ := h; exact heap_lt hb
theorem Mp.nodup (h : Mp w enc ev b l) : (l.map Prod.fst).Nodup := by obtain ⟨_, _, _, _, h, _⟩ := h; exact h
theorem Mp.of_block (h : Mp w enc ev b l) (hh : w'.heap[b]? = w.heap[b]?) : Mp w' enc ev b l := by
  obtain ⟨es, c, hb, r⟩ := h; exact ⟨es, c, hh.trans hb, r⟩
theorem Mp.drew (h : Mp w enc ev b l) : Mp w.drew enc ev b l := h
theorem Mp.drewN (h : Mp w enc ev b l) (n : Nat) : Mp (w.drewN n) enc ev b l := h
theorem Mp.alloc (h : Mp w enc ev b l) (o : Obj) : Mp (w.alloc o) enc ev b l := h.of_block (Below.heap_alloc w o b h.lt)
theorem Mp.setCell (h : Mp w enc ev b l) {p : Addr} (hp : b ≠ p.block) (u : Value) : Mp (w.setCell p u) enc ev b l := h.of_block (Below.heap_setCell w p u b hp)
theorem Mp.only {S : List Nat} (h : Mp w enc ev b l) (ho : Only S w w') (hs : b ∉ S) : Mp w' enc ev b l := h.of_block (ho.block b h.lt hs)
theorem Mp.below {B : Nat} (h : Mp w enc ev b l) (ho : Below B w w') (hs : b < B) : Mp w' enc ev b l := h.of_block (ho.block b hs)
theorem Mp.made (w : World) (enc : κ → Value) (ev : β → Value) : Mp (w.alloc (.map #[] 0)) enc ev w.heap.size ([] : List (κ × β)) :=
  ⟨#[], 0, heap_alloc_new w _, by simp, by simp, by simp, by simp⟩
theorem Mp.made_at {n : Nat} (w : World) (enc : κ → Value) (ev : β → Value) (hn : n = w.heap.size) : Mp (w.alloc (.map #[] 0)) enc ev n ([] : List (κ × β)) := by subst hn; exact Mp.made w enc ev
theorem Mp.ne_blk {g : Nat} {t : TypeId} {cs : Array Value} (h : Mp w enc ev b l) (hg : Blk w g t cs) : b ≠ g := by
  rintro rfl
  obtain ⟨es, c, hb, _⟩ := h
  unfold Blk at hg
  rw [hb] at hg; cases hg

/-- len(m). -/
theorem Mp.len (h : Mp w enc ev b l) (ht : P.underlying t = some (.map k e)) (ty : TypeId) : (Builtin.len_ #[t] ty #[.map (some b)]).run P w = .ok (.int .i64 l.length) w := by
  obtain ⟨es, clock, hb, hes, _⟩ := h
  have e1 : es.size = l.length := by simpa using congrArg List.length hes
  simp [Builtin.len_, run_underlying ht, MapKept.run_getObj_map hb, goInt, Result.andThen, e1]

/-- Only the map's block has turned; the heap has as many blocks as before. -/
def Turned (w w' : World) (b : Nat) : Prop := ∃ o, w' = setBlock w b o
theorem Turned.only {S : List Nat} (h : Turned w w' b) (hb : b ∈ S) : Only S w w' := by
  obtain ⟨o, rfl⟩ := h
  refine ⟨rfl, rfl, rfl, by simp [setBlock], fun i hi hs => ?_⟩
  simp only [setBlock, Array.getElem?_setIfInBounds]
  rw [if_neg (by rintro rfl; exact hs hb)]
theorem Turned.size (h : Turned w w' b) : w'.heap.size = w.heap.size := by obtain ⟨o, rfl⟩ := h; simp [setBlock]
theorem setBlock_at {o : Obj} (hb : b < w.heap.size) : (setBlock w b o).heap[b]? = some o := by
  simp [setBlock, Array.getElem?_setIfInBounds, hb]
theorem map_eraseIdx' {α γ : Type} (f : α → γ) : ∀ (l : List α) (i : Nat), (l.eraseIdx i).map f = (l.map f).eraseIdx i
  | [], _ => rfl
  | _ :: _, 0 => rfl
  | x :: l, i + 1 => by simp [map_eraseIdx' f l i]
end

section
variable {κ β : Type} [DecidableEq κ] {P : Program} {w w' : World} {k e t : TypeId} {enc : κ → Value} {ev : β → Value} {b : Nat} {l : List (κ × β)}
/-- The one place where a key is found. -/
theorem Mp.found (h : Mp w enc ev b l) (K : KeyOk P k enc) {es : Array MapEntry} {clock : Nat} (hes : es.toList.map (fun e => (e.key, e.val)) = l.map (fun p => (enc p.1, ev p.2))) (x : κ) (W : World) :
    (ahas x l = false ∧ (Instr.findKey k (enc x) es.toList).run P W = .ok none W) ∨
      (ahas x l = true ∧ ∃ j, (∀ d, (Instr.findKey k (enc x) es.toList).run P W = .ok (some (j, ev (aget x d l))) W) ∧ j < es.size ∧ (∀ v, aput x v l = l.set j (x, v)) ∧ adel x l = l.eraseIdx j ∧ ∃ en, es[j]? = some en ∧ en.key = enc x) := by
  have hnd := h.nodup
  have hlen : es.size = l.length := by simpa using congrArg List.length hes
  have hk : ∀ en ∈ es.toList, ∃ y, en.key = enc y := by
    intro en hen
    have : (en.key, en.val) ∈ l.map (fun p => (enc p.1, ev p.2)) := hes ▸ List.mem_map.2 ⟨en, hen, rfl⟩
    obtain ⟨p, _, hp⟩ := List.mem_map.1 this
    exact ⟨p.1, (Prod.mk.inj hp).1.symm⟩
  rcases K.find W x es.toList hk with ⟨h1, h2⟩ | ⟨j, en, h1, h2, h3⟩
  · refine .inl ⟨?_, h1⟩
    cases hh : ahas x l
    · rfl
    · obtain ⟨p, hp, rfl⟩ := List.mem_map.1 (ahas_mem.1 hh)
      have : (enc p.1, ev p.2) ∈ es.toList.map (fun e => (e.key, e.val)) := hes ▸ List.mem_map.2 ⟨p, hp, rfl⟩
      obtain ⟨en, hen, he⟩ := List.mem_map.1 this
      exact absurd (Prod.mk.inj he).1 (h2 en hen)
  · have hj : j < l.length := by
      have := (List.getElem?_eq_some_iff.1 h2).1
      simp at this; omega
    have hpair : (en.key, en.val) = (enc (l[j]).1, ev (l[j]).2) := by
      have e1 : (es.toList.map (fun e => (e.key, e.val)))[j]? = some (en.key, en.val) := by rw [List.getElem?_map, h2]; rfl
      rw [hes, List.getElem?_map, List.getElem?_eq_getElem hj] at e1
      exact (Option.some.inj e1).symm
    have hx : x = (l[j]).1 := K.inj (h3.symm.trans (Prod.mk.inj hpair).1)
    have hhas : ahas x l = true := ahas_mem.2 (hx ▸ List.mem_map.2 ⟨l[j], List.getElem_mem _, rfl⟩)
    refine .inr ⟨hhas, j, ?_, by omega, ?_⟩
    · intro d
      obtain ⟨j', _, hj', _, _, hg⟩ := apos_some (i := 0) d hhas
      have : j' = j := by
        obtain ⟨hlt, he⟩ := List.getElem?_eq_some_iff.1 hg
        refine (List.getElem_inj (xs := l.map Prod.fst) (h₀ := by simpa using hlt) (h₁ := by simpa using hj) hnd).1 ?_
        simp only [List.getElem_map, he, ← hx]
      subst this
      rw [h1]
      have he : l[j'] = (x, aget x d l) := (List.getElem?_eq_some_iff.1 hg).2
      rw [(Prod.mk.inj hpair).2, he]
    · have hl0 : l[j] = (x, (l[j]).2) := by rw [hx]
      obtain ⟨j', _, hj', hput, hdel, hg⟩ := apos_some (i := 0) (l[j]).2 hhas
      have : j' = j := by
        obtain ⟨hlt, he⟩ := List.getElem?_eq_some_iff.1 hg
        refine (List.getElem_inj (xs := l.map Prod.fst) (h₀ := by simpa using hlt) (h₁ := by simpa using hj) hnd).1 ?_
        simp only [List.getElem_map, he, ← hx]
      subst this
      exact ⟨hput, hdel, en, by simpa using h2, h3⟩

/-- m[x]. -/
theorem Mp.look (h : Mp w enc ev b l) (K : KeyOk P k enc) (ht : P.underlying t = some (.map k e)) {d : β} (hz : ∀ w : World, (zeroValue e).run P w = .ok (ev d) w) (x : κ) :
    (Instr.lookup t (.map (some b)) (enc x) false).run P w = .ok (ev (aget x d l)) w := by
  have h0 := h
  obtain ⟨es, clock, hb, hes, _⟩ := h
  rcases h0.found K hes x w (clock := clock) with ⟨h1, h2⟩ | ⟨h1, j, h2, _⟩
  · rw [aget_none h1]; simp [Instr.lookup, run_underlying ht, MapKept.run_getObj_map hb, K.check w _ x, h2, hz, Result.andThen]
  · simp [Instr.lookup, run_underlying ht, MapKept.run_getObj_map hb, K.check w _ x, h2 d, Result.andThen]
/-- v, ok := m[x]. -/
theorem Mp.look_ok (h : Mp w enc ev b l) (K : KeyOk P k enc) (ht : P.underlying t = some (.map k e)) {d : β} (hz : ∀ w : World, (zeroValue e).run P w = .ok (ev d) w) (x : κ) :
    (Instr.lookup t (.map (some b)) (enc x) true).run P w = .ok (.tuple #[ev (aget x d l), .bool (ahas x l)]) w := by
  have h0 := h
  obtain ⟨es, clock, hb, hes, _⟩ := h
  rcases h0.found K hes x w (clock := clock) with ⟨h1, h2⟩ | ⟨h1, j, h2, _⟩
  · rw [aget_none h1, h1]; simp [Instr.lookup, run_underlying ht, MapKept.run_getObj_map hb, K.check w _ x, h2, hz, Result.andThen]
  · rw [h1]; simp [Instr.lookup, run_underlying ht, MapKept.run_getObj_map hb, K.check w _ x, h2 d, Result.andThen]
/-- m[x] = v. -/
theorem Mp.put (h : Mp w enc ev b l) (K : KeyOk P k enc) (ht : P.underlying t = some (.map k e)) (x : κ) (v : β) :
    ∃ w', (Instr.mapUpdate t (.map (some b)) (enc x) (ev v)).run P w = .ok () w' ∧ Mp w' enc ev b (aput x v l) ∧ Turned w w' b := by
  have h0 := h
  have hlt := h.lt
  obtain ⟨es, clock, hb, hes, hnd, hbn, hbc⟩ := h
  rcases h0.found K hes x w (clock := clock) with ⟨h1, h2⟩ | ⟨h1, j, h2, hj, hput, _, en, hen, hkey⟩
  · refine ⟨setBlock w b (.map (es.push { key := enc x, val := ev v, born := clock }) (clock + 1)), ?_, ⟨_, _, setBlock_at hlt, ?_, aput_nodup hnd, ?_, ?_⟩, ⟨_, rfl⟩⟩
    · simp [Instr.mapUpdate, run_underlying ht, MapKept.run_getObj_map hb, K.check w _ x, h2, MapKept.run_setObj_map _ hb, Result.andThen, setBlock]
    · rw [aput_new h1]; simp [hes]
    · rw [Array.toList_push, List.map_append, List.nodup_append]
      refine ⟨hbn, by simp, ?_⟩
      intro a ha c hc
      simp only [List.map_cons, List.map_nil, List.mem_singleton] at hc
      obtain ⟨en, hen, rfl⟩ := List.mem_map.1 ha
      have := hbc en hen
      omega
    · intro en hen
      rw [Array.toList_push] at hen
      rcases List.mem_append.1 hen with hen | hen
      · have := hbc en hen; omega
      · simp at hen; subst hen; simp
  · refine ⟨setBlock w b (.map (es.modify j fun e => { e with key := enc x, val := ev v }) clock), ?_, ⟨_, _, setBlock_at hlt, ?_, aput_nodup hnd, ?_, ?_⟩, ⟨_, rfl⟩⟩
    · simp [Instr.mapUpdate, run_underlying ht, MapKept.run_getObj_map hb, K.check w _ x, h2 v, hen, hkey, K.stays w x, MapKept.run_setObj_map _ hb, Result.andThen, setBlock]
    · rw [hput]
      apply List.ext_getElem?
      intro i
      have hi : (es.toList.map (fun e => (e.key, e.val)))[i]? = (l.map (fun p => (enc p.1, ev p.2)))[i]? := by rw [hes]
      have hlen : es.size = l.length := by simpa using congrArg List.length hes
      simp only [List.getElem?_map, Array.getElem?_toList, Array.getElem?_modify, List.getElem?_set] at hi ⊢
      by_cases hij : j = i
      · subst hij
        simp [hen, show j < l.length by omega]
      · simp only [if_neg hij]; exact hi
    · have : ((es.modify j fun e => { e with key := enc x, val := ev v }).toList.map (·.born)) = es.toList.map (·.born) := by
        apply List.ext_getElem?
        intro i
        simp only [List.getElem?_map, Array.getElem?_toList, Array.getElem?_modify]
        split
        · cases es[i]? <;> rfl
        · rfl
      rw [this]; exact hbn
    · intro e' he'
      obtain ⟨i, hi, he⟩ := List.getElem_of_mem he'
      have : (es.modify j fun e => { e with key := enc x, val := ev v })[i]? = some e' := by
        rw [← Array.getElem?_toList, List.getElem?_eq_getElem hi, he]
      rw [Array.getElem?_modify] at this
      split at this
      · cases h4 : es[i]? with
        | none => rw [h4] at this; cases this
        | some e0 => rw [h4] at this; simp at this; subst this; exact hbc e0 (by rw [Array.mem_toList_iff]; exact Array.mem_of_getElem? h4)
      · exact hbc e' (by rw [Array.mem_toList_iff]; exact Array.mem_of_getElem? this)

/-- delete(m, x). -/
theorem Mp.del (h : Mp w enc ev b l) (K : KeyOk P k enc) (ht : P.underlying t = some (.map k e)) (x : κ) (ty : TypeId) :
    ∃ w', (Builtin.delete_ #[t, k] ty #[.map (some b), enc x]).run P w = .ok (.tuple #[]) w' ∧ Mp w' enc ev b (adel x l) ∧ Turned w w' b := by
  have h0 := h
  have hlt := h.lt
  obtain ⟨es, clock, hb, hes, hnd, hbn, hbc⟩ := h
  rcases h0.found K hes x w (clock := clock) with ⟨h1, h2⟩ | ⟨h1, j, h2, hj, _, hdel, en, hen, hkey⟩
  · refine ⟨setBlock w b (.map es clock), ?_, ⟨_, _, setBlock_at hlt, ?_, adel_nodup hnd, hbn, hbc⟩, ⟨_, rfl⟩⟩
    · simp [Builtin.delete_, run_underlying ht, MapKept.run_getObj_map hb, K.check w _ x, h2, MapKept.run_setObj_map _ hb, Result.andThen, setBlock]
    · rw [hes, adel_none h1]
  · have hne : Nonempty β := by
      cases l with
      | nil => simp [ahas] at h1
      | cons p _ => exact ⟨p.2⟩
    obtain ⟨d⟩ := hne
    have hs : (es.eraseIdxIfInBounds j).toList = es.toList.eraseIdx j := by
      rw [Array.eraseIdxIfInBounds, dif_pos hj]; simp
    refine ⟨setBlock w b (.map (es.eraseIdxIfInBounds j) clock), ?_, ⟨_, _, setBlock_at hlt, ?_, adel_nodup hnd, ?_, ?_⟩, ⟨_, rfl⟩⟩
    · simp [Builtin.delete_, run_underlying ht, MapKept.run_getObj_map hb, K.check w _ x, h2 d, MapKept.run_setObj_map _ hb, Result.andThen, setBlock]
    · rw [hdel, hs, map_eraseIdx', hes, ← map_eraseIdx']
    · rw [hs]; exact hbn.sublist ((List.eraseIdx_sublist _ _).map _)
    · rw [hs]; exact fun e he => hbc e ((List.eraseIdx_sublist _ _).subset he)
end

end Go.Proofs.Ytnpmelonkcgpgad
