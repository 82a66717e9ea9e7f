/- Words for memory: a slice that reads as a list of values, a slice of bytes; no program in sight. -/
import Derived.WalkKit
import Derived.WalkSpells
import Derived.WalkLawsBesides
import Derived.Lib.Hide
import Derived.Laws.BytesArg
import Derived.Laws.IdiomCopy
import Derived.Laws.MakeOwn
import Derived.Laws.CopyOwn
namespace Go.Proofs.Ytnpmelonkcgpgad
open Go.RowKit
set_option linter.unusedVariables false
set_option linter.unusedSimpArgs false

/-- The slice at A holds the cells xs (nothing is said where xs is empty). -/
def Sl (w : World) (A : Option Addr) (xs : List Value) : Prop :=
  0 < xs.length → ∃ b o, A = some ⟨b, o, none⟩ ∧ ∀ j v, xs[j]? = some v → w.cell? ⟨b, o + j, none⟩ = some v

theorem cell_lt {w : World} {a : Addr} {v : Value} (h : w.cell? a = some v) : a.block < w.heap.size := by
  unfold World.cell? at h
  rcases Nat.lt_or_ge a.block w.heap.size with h1 | h1
  · exact h1
  · rw [Array.getElem?_eq_none h1] at h; cases h

theorem Sl.nil (w : World) (A : Option Addr) : Sl w A [] := fun h => absurd h (by simp)

theorem Sl.keep {w w' : World} {A : Option Addr} {xs : List Value} (h : Sl w A xs) (hk : ∀ a : Addr, a.block < w.heap.size → w'.cell? a = w.cell? a) : Sl w' A xs := by
  intro hl
  obtain ⟨b, o, rfl, hc⟩ := h hl
  refine ⟨b, o, rfl, fun j v hj => ?_⟩
  have h1 := hc j v hj
  exact (hk _ (cell_lt h1)).trans h1

theorem Sl.below {w w' : World} {A : Option Addr} {xs : List Value} (h : Sl w A xs) (hb : Below w.heap.size w w') : Sl w' A xs :=
  h.keep fun _ ha => hb.cell ha

theorem Sl.below' {w w' : World} {A : Option Addr} {xs : List Value} {B : Nat} (h : Sl w A xs) (hb : Below B w w') (hB : w.heap.size ≤ B) : Sl w' A xs :=
  h.keep fun _ ha => hb.cell (Nat.lt_of_lt_of_le ha hB)
theorem Sl.alloc {w : World} {A : Option Addr} {xs : List Value} (h : Sl w A xs) (o : Obj) : Sl (w.alloc o) A xs :=
  h.keep fun a ha => World.cell?_alloc_lt w o a ha

/-- A cut of a slice. -/
theorem Sl.cut {w : World} {A : Option Addr} {xs : List Value} (h : Sl w A xs) (l m : Nat) (k : Nat) (hm : l < m) (hk : k ≤ xs.length) :
    Sl w (if m = l then A else A.map (·.add l)) ((xs.take k).drop l) := by
  intro hl
  rw [if_neg (by omega)]
  simp only [List.length_drop, List.length_take] at hl
  obtain ⟨b, o, rfl, hc⟩ := h (by omega)
  refine ⟨b, o + l, by simp [Addr.add], fun j v hj => ?_⟩
  rw [Nat.add_assoc]
  refine hc _ _ ?_
  rw [List.getElem?_drop, List.getElem?_take] at hj
  split at hj
  · exact hj
  · cases hj

/-- Bytes as cells. -/
def bs (l : List UInt8) : List Value := l.map fun c => .int .u8 (c.toNat : Int)

@[simp] theorem bs_length (l : List UInt8) : (bs l).length = l.length := by simp [bs]

theorem run_conv {P : Program} {w : World} {A : Option Addr} {l : List UInt8} (h : Sl w A (bs l)) (src dst e : TypeId) (hs : P.underlying src = some (.slice e)) (he : P.underlying e = some (.int .u8))
    (hd : P.underlying dst = some .string) (n c : Nat) (hn : n = l.length) : (convert src dst (.slice A n c)).run P w = .ok (.string ⟨l.toArray⟩) w := by
  subst hn
  rcases l with _ | ⟨x, l⟩
  · rcases A with _ | A
    · exact (run_convert_bytes_nil w src e hs he _ c dst hd).trans rfl
    · have hl : (loadCells A 0).run P w = .ok (([] : List Int).map (Value.int .u8)).toArray w := by
        simpa using run_loadCells_list (P := P) w A [] (by simp)
      rw [run_convert_bytes_string w src dst e _ _ c hs he hd]
      exact run_bytesToString w A _ c [] hl
  · obtain ⟨b, o, rfl, hc⟩ := h (by simp)
    have hmap : (bs (x :: l)) = ((x :: l).map fun c => (c.toNat : Int)).map (Value.int .u8) := by simp [bs]
    have := run_convert_bytes_arg (P := P) w src e hs he b o (x :: l).length c ((x :: l).map fun c => (c.toNat : Int)) (by simp) (fun i hi => by
      refine hc i _ ?_
      rw [hmap, List.getElem?_map, List.getD, List.getElem?_eq_getElem (by simpa using hi)]
      simp) dst hd
    rw [this]
    congr 2
    simp [strOfNums]
    rw [show ((fun n : Int => UInt8.ofNat n.toNat) ∘ fun c : UInt8 => (c.toNat : Int)) = id from funext fun c => by simp]
    simp

theorem bs_one (l : List UInt8) : ∀ v ∈ bs l, v.oneCell' = true := by
  intro v hv
  simp only [bs, List.mem_map] at hv
  obtain ⟨c, _, rfl⟩ := hv
  rfl

theorem setRow_alloc (w : World) (cur cs : Array Value) (t : TypeId) : (w.alloc (.cells cur t)).setRow w.heap.size cs = w.alloc (.cells cs t) := by
  unfold World.setRow World.alloc
  congr 1
  apply Array.ext
  · simp
  · intro i h1 h2
    simp only [Array.getElem_modify, Array.getElem_push]
    by_cases hi : w.heap.size = i
    · subst hi; simp
    · simp at h2; simp [hi, show i < w.heap.size by omega]

theorem cell_alloc {w : World} {a : Addr} {v : Value} (o : Obj) (h : w.cell? a = some v) : (w.alloc o).cell? a = some v :=
  (World.cell?_alloc_lt w o a (cell_lt h)).trans h

/-- make, with whatever length: the new block is zeroes. -/
theorem run_make_n {P : Program} (w : World) (t e : TypeId) (i : TypeInfo) (z : Value) (ht : P.underlying t = some (.slice e)) (hi : P.info? e = some i) (hz : i.zero = some z) (hsz : i.size = 1) (hzc : z.cells = #[z]) (n : Nat) (hbytes : i.bytes * n ≤ 281474976710656) (h63 : n ≤ 9223372036854775807) :
    (Instr.makeSlice t (.int .i64 (n : Int)) (.int .i64 (n : Int))).run P w = .ok (.slice (some ⟨w.heap.size, 0, none⟩) n n) (w.alloc (.cells (Array.replicate n z) e)) := by
  have hb : (i.bytes : Int) * (n : Int) ≤ 281474976710656 := by
    have h : ((i.bytes * n : Nat) : Int) ≤ 281474976710656 := by omega
    rwa [Int.natCast_mul] at h
  rw [run_make w t e i z ht hi hz .i64 .i64 n n (by omega) (Int.le_refl _) hb (by omega)]
  congr 3
  simp only [hsz, hzc, madeCells, Int.toNat_natCast, Nat.mul_one]
  apply Array.ext <;> simp [Nat.mod_one]

/-- copy into a block that was just made. -/
theorem run_copy_new {P : Program} (w : World) (dT sT ty e : TypeId) (hu : P.underlying dT = some (.slice e)) (hs : (P.info? e).map (·.size) = some 1) (A : Option Addr) (cs : List Value) (h : Sl w A cs) (h1 : ∀ v ∈ cs, v.oneCell' = true)
    (cur : Array Value) (n m : Nat) (hn : cs.length = n) (hc : cur.size = n) :
    (Builtin.copy_ #[dT, sT] ty #[.slice (some ⟨w.heap.size, 0, none⟩) n n, .slice A n m]).run P (w.alloc (.cells cur e)) = .ok (goInt n) (w.alloc (.cells cs.toArray e)) := by
  subst hn
  rcases Nat.eq_zero_or_pos cs.length with h0 | h0
  · have hcs : cs = [] := List.eq_nil_of_length_eq_zero h0
    subst hcs
    have hcur : cur = #[] := Array.eq_empty_of_size_eq_zero (by simpa using hc)
    subst hcur
    exact run_copy_none _ dT sT ty e _ A _ _ _ _ hu hs (by simp)
  · obtain ⟨b, o, rfl, hcell⟩ := h h0
    have := run_copy_row P (w.alloc (.cells cur e)) dT sT ty e w.heap.size 0 cs.length cs.length ⟨b, o, none⟩ cs.length m cur e cs hu hs (heap_alloc_new w _) (by simp) (fun j v hj => by
      have h2 : (⟨b, o, none⟩ : Addr).add j = ⟨b, o + j, none⟩ := by unfold Addr.add; split <;> simp_all
      rw [h2]
      exact cell_alloc _ (hcell j v hj)) (by simp [hc]) h1
    rw [this, setRow_alloc, List.drop_of_length_le (by simp [hc])]
    simp

/-- Two steps, each of which leaves alone what was there. -/
theorem bel_trans {a b c : World} (h : Below a.heap.size a b) (k : Below b.heap.size b c) : Below a.heap.size a c := h.trans (k.mono h.size)
theorem bel_alloc {a : World} (o : Obj) : Below a.heap.size a (a.alloc o) := (Below.refl _ _).alloc (Nat.le_refl _) o
theorem bel_then {a c : World} {o : Obj} (k : Below (a.heap.size + 1) (a.alloc o) c) : Below a.heap.size a c := (bel_alloc o).trans (k.mono (by omega))

end Go.Proofs.Ytnpmelonkcgpgad
