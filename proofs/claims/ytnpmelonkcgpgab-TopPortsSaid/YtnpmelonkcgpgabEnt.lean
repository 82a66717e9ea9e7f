/- m[x] op= .. and m[x], m[y] = ..: the entry is found first, then stored; no program in sight. -/
import Derived.Test.YtnpmelonkcgpgabMapW
import Derived.WideKeyEntry
namespace Go.Proofs.Ytnpmelonkcgpgab
open Go.RowKit
open Go.ChangeShapes Go.WideShapes Go.MapKept Go.ChangeMaps
set_option linter.unusedVariables false
set_option linter.unusedSimpArgs false
section
variable {κ β : Type} [DecidableEq κ] {P : Program} {w w' : World} {k e t : TypeId} {enc : κ → Value} {ev : β → Value} {b : Nat} {l : List (κ × β)}

theorem run_entryStore {w2 : World} {es : Array MapEntry} {clock j st : Nat} {v : Value} (hb : w2.heap[b]? = some (.map es clock)) (hf : es.findIdx? (fun e => ((e.born : Nat) : Int) == ((st : Nat) : Int)) = some j) :
    (Instr.entryStore t (.map (some b)) (.int .i64 ((st : Nat) : Int)) v).run P w2 = .ok () (setBlock w2 b (.map (es.modify j fun e => { e with val := v }) clock)) := by
  simp [Instr.entryStore, MapKept.run_getObj_map hb, asInt, asIntOf, goInt, hf, MapKept.run_setObj_map _ hb, Result.andThen, setBlock, goInt]

theorem modify_born (es : Array MapEntry) (j : Nat) (v : Value) : ((es.modify j fun e => { e with val := v }).toList.map (·.born)) = es.toList.map (·.born) := by
  apply List.ext_getElem?
  intro i
  simp only [List.getElem?_map, Array.getElem?_toList, Array.getElem?_modify]
  split
  · cases es[i]? <;> rfl
  · rfl
theorem modify_mem {es : Array MapEntry} {j : Nat} {v : Value} {e' : MapEntry} (h : e' ∈ (es.modify j fun e => { e with val := v }).toList) : ∃ e0 ∈ es.toList, e'.born = e0.born := by
  have : e'.born ∈ (es.modify j fun e => { e with val := v }).toList.map (·.born) := List.mem_map.2 ⟨e', h, rfl⟩
  rw [modify_born] at this
  obtain ⟨e0, h0, h1⟩ := List.mem_map.1 this
  exact ⟨e0, h0, h1.symm⟩
omit [DecidableEq κ] in
theorem modify_set {es : Array MapEntry} {j : Nat} {v : β} {en : MapEntry} {x : κ} (hes : es.toList.map (fun e => (e.key, e.val)) = l.map (fun p => (enc p.1, ev p.2))) (hen : es[j]? = some en) (hk : en.key = enc x) (hj : j < es.size) :
    (es.modify j fun e => { e with val := ev v }).toList.map (fun e => (e.key, e.val)) = (l.set j (x, v)).map (fun p => (enc p.1, ev p.2)) := by
  apply List.ext_getElem?
  intro i
  have hi : (es.toList.map (fun e => (e.key, e.val)))[i]? = (l.map (fun p => (enc p.1, ev p.2)))[i]? := by rw [hes]
  have hlen : es.size = l.length := by simpa using congrArg List.length hes
  simp only [List.getElem?_map, Array.getElem?_toList, Array.getElem?_modify, List.getElem?_set] at hi ⊢
  by_cases hij : j = i
  · subst hij
    simp [hen, hk, show j < l.length by omega]
  · simp only [if_neg hij]; exact hi

/-- The entry of x is found (or made, with its zero value); then it is stored. -/
theorem Mp.entry (h : Mp w enc ev b l) (K : KeyOk P k enc) (ht : P.underlying t = some (.map k e)) {d : β} (hz : ∀ w : World, (zeroValue e).run P w = .ok (ev d) w) (x : κ) :
    ∃ w1 st, (Instr.mapEntry t (.map (some b)) (enc x)).run P w = .ok (.tuple #[ev (aget x d l), .int .i64 ((st : Nat) : Int)]) w1 ∧ Turned w w1 b ∧
      ∀ (w2 : World) (v : β), w2.heap[b]? = w1.heap[b]? → ∃ w3, (Instr.entryStore t (.map (some b)) (.int .i64 ((st : Nat) : Int)) (ev v)).run P w2 = .ok () w3 ∧ Mp w3 enc ev b (aput x v l) ∧ Turned w2 w3 b := by
  have h0 := h
  have hlt := h.lt
  obtain ⟨es, clock, hb, hes, hnd, hbn, hbc⟩ := h
  rcases h0.found K hes x w (clock := clock) with ⟨h1, h2⟩ | ⟨h1, j, h2, hj, hput, _, en, hen, hkey⟩
  · refine ⟨setBlock w b (.map (es.push { key := enc x, val := ev d, born := clock }) (clock + 1)), clock, ?_, ⟨_, rfl⟩, ?_⟩
    · rw [aget_none h1]
      simp [Instr.mapEntry, run_underlying ht, MapKept.run_getObj_map hb, K.check w _ x, h2, hz, MapKept.run_setObj_map _ hb, Result.andThen, setBlock, goInt]
    · intro w2 v hw2
      rw [setBlock_at hlt] at hw2
      have hfresh : ((es.push { key := enc x, val := ev d, born := clock }).toList.map (·.born)).Nodup := by
        rw [Array.toList_push, List.map_append, List.nodup_append]
        refine ⟨hbn, by simp, ?_⟩
        intro a ha c hc
        simp only [List.map_cons, List.map_nil, List.mem_singleton] at hc
        obtain ⟨en, hen, rfl⟩ := List.mem_map.1 ha
        have := hbc en hen
        omega
      have hf : (es.push { key := enc x, val := ev d, born := clock }).findIdx? (fun e => ((e.born : Nat) : Int) == ((clock : Nat) : Int)) = some es.size := by
        rw [Go.WideElems.findIdx_arr]
        exact Go.WideElems.findIdx_born (e0 := { key := enc x, val := ev d, born := clock }) hfresh (by simp)
      have hmod : (es.push { key := enc x, val := ev d, born := clock }).modify es.size (fun e => { e with val := ev v }) = es.push { key := enc x, val := ev v, born := clock } := by
        apply Array.ext'
        rw [Array.toList_modify, Array.toList_push, Array.toList_push, ← Array.length_toList, Go.WideElems.modify_last]
      refine ⟨_, run_entryStore hw2 hf, ⟨_, _, setBlock_at (heap_lt hw2), ?_, aput_nodup hnd, ?_, ?_⟩, ⟨_, rfl⟩⟩
      · rw [hmod, aput_new h1]; simp [hes]
      · rw [modify_born]; exact hfresh
      · intro e' he'
        obtain ⟨e0, he0, hb0⟩ := modify_mem he'
        rw [Array.toList_push] at he0
        rcases List.mem_append.1 he0 with he0 | he0
        · have := hbc e0 he0; omega
        · simp at he0; subst he0; simp at hb0; omega
  · have hsame : es.modify j (fun e => { e with key := enc x }) = es := by
      apply Array.ext
      · simp
      · intro i h1 h2
        rw [Array.getElem_modify]
        split
        · rename_i hij
          subst hij
          obtain ⟨_, he⟩ := Array.getElem?_eq_some_iff.1 hen
          rw [he, ← hkey]
        · rfl
    refine ⟨setBlock w b (.map es clock), en.born, ?_, ⟨_, rfl⟩, ?_⟩
    · simp [Instr.mapEntry, run_underlying ht, MapKept.run_getObj_map hb, K.check w _ x, h2 d, hen, hkey, K.stays w x, hsame, MapKept.run_setObj_map _ hb, Result.andThen, setBlock, goInt]
    · intro w2 v hw2
      rw [setBlock_at hlt] at hw2
      have hf : es.findIdx? (fun e => ((e.born : Nat) : Int) == ((en.born : Nat) : Int)) = some j := by
        rw [Go.WideElems.findIdx_arr]
        exact Go.WideElems.findIdx_born hbn (by simpa using hen)
      refine ⟨_, run_entryStore hw2 hf, ⟨_, _, setBlock_at (heap_lt hw2), ?_, aput_nodup hnd, ?_, ?_⟩, ⟨_, rfl⟩⟩
      · rw [hput]; exact modify_set hes hen hkey hj
      · rw [modify_born]; exact hbn
      · intro e' he'
        obtain ⟨e0, he0, hb0⟩ := modify_mem he'
        have := hbc e0 he0; omega
end
end Go.Proofs.Ytnpmelonkcgpgab
