/- Pieces in a row. -/
import Derived.Test.YtnpmelonkcgpgadTick
import Derived.Test.YtnpmelonkcgpgadOwn
namespace Go.Proofs.Ytnpmelonkcgpgad
open Go.RowKit
set_option linter.unusedVariables false
set_option linter.unusedSimpArgs false

def pcCells : List (Int × Value) → List Value
  | [] => []
  | p :: l => .int .u32 p.1 :: p.2 :: pcCells l
theorem pcCells_length : ∀ l, (pcCells l).length = l.length * 2
  | [] => rfl
  | p :: l => by simp only [pcCells, List.length_cons, pcCells_length l]; omega
theorem pcCells_app : ∀ l m, pcCells (l ++ m) = pcCells l ++ pcCells m
  | [], m => rfl
  | p :: l, m => by simp only [pcCells, List.cons_append, pcCells_app l m]
theorem pcCells_get : ∀ (l : List (Int × Value)) (i : Nat) (h : i < l.length), (pcCells l)[i * 2]? = some (.int .u32 (l[i]).1) ∧ (pcCells l)[i * 2 + 1]? = some (l[i]).2
  | p :: l, 0, _ => ⟨rfl, rfl⟩
  | p :: l, i + 1, h => by
    have := pcCells_get l i (by simpa using h)
    simp only [pcCells, show (i + 1) * 2 = i * 2 + 1 + 1 by omega, show i * 2 + 1 + 1 + 1 = (i * 2 + 1) + 1 + 1 by omega, List.getElem?_cons_succ, List.getElem_cons_succ]
    exact this

def Pcs (w : World) (base : Nat) (row : Option Nat) : List (Int × Value) → List (Int × List UInt8) → Prop
  | [], [] => True
  | p :: l, d :: m => (p.1 = d.1 ∧ Ow w base 5 p.2 (bs d.2) ∧ (∀ g, p.2.ownBlock = some g → row ≠ some g)) ∧ Pcs w base row l m
  | _, _ => False
/-- What a reader wants of them. -/
def PcsR (w : World) (base : Nat) : List (Int × Value) → List (Int × List UInt8) → Prop
  | [], [] => True
  | p :: l, d :: m => (p.1 = d.1 ∧ ∃ A c, p.2 = .slice A d.2.length c ∧ Sl w A (bs d.2) ∧ ∀ a, A = some a → base ≤ a.block) ∧ PcsR w base l m
  | _, _ => False

section
variable {w w' : World} {base : Nat} {row : Option Nat}
theorem own_lt {e : TypeId} {v : Value} {xs : List Value} (h : Ow w base e v xs) {g : Nat} (hv : v.ownBlock = some g) : g < w.heap.size ∧ base ≤ g := by
  rcases h.2 with ⟨rfl, _⟩ | ⟨g', cap, cur, rfl, hbg, hg, _⟩
  · simp [Value.ownBlock] at hv
  · simp [Value.ownBlock] at hv; subst hv; exact ⟨heap_lt hg, hbg⟩
theorem Pcs.grown : ∀ {l m}, Pcs w base row l m → w.grownBy w' row → Pcs w' base row l m
  | [], [], _, _ => trivial
  | p :: l, d :: m, h, hg => ⟨⟨h.1.1, World.ownsRow.kept h.1.2.1 hg (by
      cases hv : p.2.ownBlock with
      | none => exact .inl rfl
      | some g => exact .inr (fun e => h.1.2.2 g hv e.symm)), h.1.2.2⟩, Pcs.grown h.2 hg⟩
theorem Pcs.grown_new : ∀ {l m}, Pcs w base row l m → w.grownBy w' row → ∀ g, w.heap.size ≤ g → Pcs w' base (some g) l m
  | [], [], _, _, _, _ => trivial
  | p :: l, d :: m, h, hg, g, hge => ⟨⟨h.1.1, World.ownsRow.kept h.1.2.1 hg (by
      cases hv : p.2.ownBlock with
      | none => exact .inl rfl
      | some g => exact .inr (fun e => h.1.2.2 g hv e.symm)), fun k hk e => by have := (own_lt h.1.2.1 hk).1; obtain rfl := Option.some.inj e; omega⟩, Pcs.grown_new h.2 hg g hge⟩
theorem Pcs.row_new : ∀ {l m}, Pcs w base row l m → ∀ g, w.heap.size ≤ g → Pcs w base (some g) l m
  | [], [], _, _, _ => trivial
  | p :: l, d :: m, h, g, hg => ⟨⟨h.1.1, h.1.2.1, fun k hk e => by have := (own_lt h.1.2.1 hk).1; obtain rfl := Option.some.inj e; omega⟩, Pcs.row_new h.2 g hg⟩
theorem Pcs.below : ∀ {l m}, Pcs w base row l m → Below w.heap.size w w' → Pcs w' base row l m
  | [], [], _, _ => trivial
  | p :: l, d :: m, h, hb => ⟨⟨h.1.1, World.ownsRow.kept (row := none) h.1.2.1 ⟨hb.os, hb.tape, hb.output, hb.size, fun k hk _ => hb.block k hk⟩ (by cases p.2.ownBlock <;> simp), h.1.2.2⟩, Pcs.below h.2 hb⟩
theorem Pcs.far : ∀ {l m}, Pcs w base row l m → ∀ {p : Addr}, p.block < base → ∀ u, Pcs (w.setCell p u) base row l m
  | [], [], _, _, _, _ => trivial
  | p :: l, d :: m, h, a, ha, u => ⟨⟨h.1.1, h.1.2.1.far ha u, h.1.2.2⟩, Pcs.far h.2 ha u⟩
theorem Pcs.drew {l m} (h : Pcs w base row l m) : Pcs w.drew base row l m := by
  induction l generalizing m with
  | nil => cases m with
    | nil => trivial
    | cons _ _ => exact h
  | cons p l ih => cases m with
    | nil => exact h
    | cons d m => exact ⟨⟨h.1.1, h.1.2.1, h.1.2.2⟩, ih h.2⟩
theorem Pcs.snoc : ∀ {l m}, Pcs w base row l m → ∀ {p d}, (p.1 = d.1 ∧ Ow w base 5 p.2 (bs d.2) ∧ (∀ g, p.2.ownBlock = some g → row ≠ some g)) → Pcs w base row (l ++ [p]) (m ++ [d])
  | [], [], _, _, _, h => ⟨h, trivial⟩
  | _ :: _, _ :: _, h, _, _, h' => ⟨h.1, Pcs.snoc h.2 h'⟩
theorem Pcs.length : ∀ {l m}, Pcs w base row l m → l.length = m.length
  | [], [], _ => rfl
  | _ :: _, _ :: _, h => by simp [Pcs.length h.2]
theorem Pcs.reads {b2 : Nat} (hb : b2 ≤ base) : ∀ {l m}, Pcs w base row l m → PcsR w b2 l m
  | [], [], _ => trivial
  | p :: l, d :: m, h => ⟨⟨h.1.1, by
      obtain ⟨A, c, hv, hs, _, _, hn, _⟩ := h.1.2.1.form
      exact ⟨A, c, by simpa using hv, hs, fun a ha => Nat.le_trans hb (hn a ha).1⟩⟩, Pcs.reads hb h.2⟩
theorem PcsR.below : ∀ {l m}, PcsR w base l m → Below w.heap.size w w' → PcsR w' base l m
  | [], [], _, _ => trivial
  | p :: l, d :: m, h, hb => ⟨⟨h.1.1, by obtain ⟨A, c, hv, hs, hn⟩ := h.1.2; exact ⟨A, c, hv, hs.below hb, hn⟩⟩, PcsR.below h.2 hb⟩
theorem PcsR.only {S : List Nat} : ∀ {l m}, PcsR w base l m → Only S w w' → (∀ g ∈ S, g < base) → PcsR w' base l m
  | [], [], _, _, _ => trivial
  | p :: l, d :: m, h, hb, hS => ⟨⟨h.1.1, by obtain ⟨A, c, hv, hs, hn⟩ := h.1.2; exact ⟨A, c, hv, sl_only hs hb (fun a ha hm => by have := hS _ hm; have := hn a ha; omega), hn⟩⟩, PcsR.only h.2 hb hS⟩
theorem PcsR.get : ∀ {l m}, PcsR w base l m → ∀ (i : Nat) (h : i < l.length) (h' : i < m.length), (l[i]).1 = (m[i]).1 ∧ ∃ A c, (l[i]).2 = .slice A (m[i]).2.length c ∧ Sl w A (bs (m[i]).2)
  | p :: l, d :: m, h, 0, _, _ => ⟨h.1.1, by obtain ⟨A, c, hv, hs, _⟩ := h.1.2; exact ⟨A, c, hv, hs⟩⟩
  | p :: l, d :: m, h, i + 1, h1, h2 => PcsR.get h.2 i (by simpa using h1) (by simpa using h2)
theorem PcsR.length : ∀ {l m}, PcsR w base l m → l.length = m.length
  | [], [], _ => rfl
  | _ :: _, _ :: _, h => by simp [PcsR.length h.2]
end

/-- The bytes of a piece. -/
def pieceOf (q : BufS) (p : Int × Int) : Int × List UInt8 := ((q.una + p.1) % 4294967296, (q.data.take p.2.toNat).drop p.1.toNat)
theorem pc_info : ∃ i, Try.prog.info? 42 = some i ∧ i.zero = some (.agg #[.int .u32 0, .slice none 0 0]) ∧ i.size = 2 ∧ i.bytes = 32 := info_some (by kernel_rfl)

variable {w w' : World} {b : Nat} {q : BufS}
/-- The closure of Send. -/
theorem next_any (w : World) (n2 n3 n6 : Nat) (h : BufAt w b q) (hi : BufIn q) (mss en : Int) (c2 : w.cell? ⟨n2, 0, none⟩ = some (.pointer (some ⟨b, 0, none⟩))) (c3 : w.cell? ⟨n3, 0, none⟩ = some (.int .i64 mss)) (c6 : w.cell? ⟨n6, 0, none⟩ = some (.int .i64 en)) (m0 : 0 ≤ mss) (m1 : mss ≤ 1500) :
    Calls Try.prog 19 #[.pointer (some ⟨n2, 0, none⟩), .pointer (some ⟨n3, 0, none⟩), .pointer (some ⟨n6, 0, none⟩)] w fun e w' => e = .returned (.int .i64 (min (q.sent + mss) en)) ∧ w' = w.drew := by
  have k2 := h.cells.2.2.1
  have s0 := hi.s0
  have s1 : q.sent ≤ 16384 := by have := hi.s1; have := hi.l1; omega
  generalize q.sent = s at *
  clear h
  go_enter Try.func19, Try.ntmps19
  go_wp2_with (fail)
  refine wp_still_tail 7 (by kernel_rfl) (by kernel_rfl) ?_
  simp only [List.take_succ_cons, List.take_zero, List.drop_succ_cons, List.drop_zero]
  repeat still_step
  refine wpStill_nil ?_
  go_wp2
  go_ret
  exact ⟨rfl, rfl⟩
end Go.Proofs.Ytnpmelonkcgpgad

