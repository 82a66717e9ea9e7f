/- (*ports11).copied. -/
import Derived.Test.YtnpmelonkcgpgabNote
import Derived.Test.YtnpmelonkcgpgabRange
import Derived.Deep.LoopGhost
import Derived.Deep.CutRange
namespace Go.Proofs.Ytnpmelonkcgpgab
open Go.RowKit
set_option linter.unusedVariables false
set_option linter.unusedSimpArgs false

/-- The cells of a noter. -/
def noteCells (p : NoteS) (bt bu : Nat) : Array Value := #[.int .i64 p.low, .int .i64 p.high, .int .u64 p.rest, .map (some bt), .map (some bu), .int .u64 p.now]

/-- All that copied holds while it copies. -/
structure Mid (w wr : World) (b bt bu : Nat) (p : NoteS) (nb ta fa : Nat) (tl : List (Int × Bool)) (fl : List (Int × Int)) : Prop where
  note : NoteAt wr b bt bu p
  blk : Blk wr nb 43 (noteCells p ta fa)
  mt : Mp wr (Value.int .i64) Value.bool ta tl
  mf : Mp wr (Value.int .i64) (Value.int .u64) fa fl
  ne : ta ≠ fa
  nb0 : w.heap.size ≤ nb
  ta0 : w.heap.size ≤ ta
  fa0 : w.heap.size ≤ fa
  size : w.heap.size ≤ wr.heap.size
  bel : Below w.heap.size w wr

section
variable {w wr wb : World} {b bt bu nb ta fa : Nat} {p : NoteS} {tl tl' : List (Int × Bool)} {fl fl' : List (Int × Int)}
theorem Mid.drew (m : Mid w wr b bt bu p nb ta fa tl fl) : Mid w wr.drew b bt bu p nb ta fa tl fl :=
  ⟨m.note, m.blk, m.mt, m.mf, m.ne, m.nb0, m.ta0, m.fa0, m.size, m.bel.drew⟩
theorem Mid.only {S : List Nat} (m : Mid w wr b bt bu p nb ta fa tl fl) (hw : NoteAt w b bt bu p) (ho : Only S wr wb) (hs : ∀ x ∈ S, w.heap.size ≤ x ∧ x ≠ nb ∧ x ≠ ta ∧ x ≠ fa) : Mid w wb b bt bu p nb ta fa tl fl := by
  have hn : ∀ x, x < w.heap.size → x ∉ S := fun x hx hm => by have := hs x hm; omega
  have h1 := hw.1.lt; have h2 := hw.2.1.lt; have h3 := hw.2.2.1.lt
  exact ⟨⟨m.note.1.only ho (hn _ h1), m.note.2.1.only ho (hn _ h2), m.note.2.2.1.only ho (hn _ h3), m.note.2.2.2⟩, m.blk.only ho (fun hm => (hs _ hm).2.1 rfl), m.mt.only ho (fun hm => (hs _ hm).2.2.1 rfl), m.mf.only ho (fun hm => (hs _ hm).2.2.2 rfl),
    m.ne, m.nb0, m.ta0, m.fa0, by have := ho.size; have := m.size; omega, m.bel.trans (ho.toBelow m.size (fun x hx => (hs x hx).1))⟩
theorem Mid.putT (m : Mid w wr b bt bu p nb ta fa tl fl) (hw : NoteAt w b bt bu p) (mb : Mp wb (Value.int .i64) Value.bool ta tl') (tb : Turned wr wb ta) : Mid w wb b bt bu p nb ta fa tl' fl := by
  have ho : Only [ta] wr wb := tb.only (by simp)
  have h1 := hw.1.lt; have h2 := hw.2.1.lt; have h3 := hw.2.2.1.lt
  have h4 := m.ta0; have h5 := m.mt.ne_blk m.blk; have h6 := m.ne
  exact ⟨⟨m.note.1.only ho (by simp; omega), m.note.2.1.only ho (by simp; omega), m.note.2.2.1.only ho (by simp; omega), m.note.2.2.2⟩, m.blk.only ho (by simpa using Ne.symm h5), mb, m.mf.only ho (by simpa using Ne.symm h6),
    m.ne, m.nb0, m.ta0, m.fa0, by have := ho.size; have := m.size; omega, m.bel.trans (ho.toBelow m.size (by simpa using h4))⟩
theorem Mid.putF (m : Mid w wr b bt bu p nb ta fa tl fl) (hw : NoteAt w b bt bu p) (mb : Mp wb (Value.int .i64) (Value.int .u64) fa fl') (tb : Turned wr wb fa) : Mid w wb b bt bu p nb ta fa tl fl' := by
  have ho : Only [fa] wr wb := tb.only (by simp)
  have h1 := hw.1.lt; have h2 := hw.2.1.lt; have h3 := hw.2.2.1.lt
  have h4 := m.fa0; have h5 := m.mf.ne_blk m.blk; have h6 := m.ne
  exact ⟨⟨m.note.1.only ho (by simp; omega), m.note.2.1.only ho (by simp; omega), m.note.2.2.1.only ho (by simp; omega), m.note.2.2.2⟩, m.blk.only ho (by simpa using Ne.symm h5), m.mt.only ho (by simpa using h6), mb,
    m.ne, m.nb0, m.ta0, m.fa0, by have := ho.size; have := m.size; omega, m.bel.trans (ho.toBelow m.size (by simpa using h4))⟩
theorem Mid.blk3 (m : Mid w wr b bt bu p nb ta fa tl fl) : wr.cell? ⟨nb, 3, none⟩ = some (.map (some ta)) := m.blk.cell 3
theorem Mid.blk4 (m : Mid w wr b bt bu p nb ta fa tl fl) : wr.cell? ⟨nb, 4, none⟩ = some (.map (some fa)) := m.blk.cell 4
end

theorem Mid.start1 (w : World) (b bt bu : Nat) (p : NoteS) (h : NoteAt w b bt bu p) :
    Mid w (((w.alloc (.map #[] 0)).alloc (.map #[] 0)).alloc (.cells (noteCells p w.heap.size (w.heap.size + 1)) 43)).drew b bt bu p (w.heap.size + 1 + 1) w.heap.size (w.heap.size + 1) [] [] := by
  refine Mid.drew ⟨?_, Blk.new_at _ _ _ (by simp), ((Mp.made w _ _).alloc _).alloc _, (Mp.made_at (w.alloc _) _ _ (by simp)).alloc _, by omega, by omega, by omega, by omega, by simp; omega, ?_⟩
  · exact ⟨((h.1.alloc _).alloc _).alloc _, ((h.2.1.alloc _).alloc _).alloc _, ((h.2.2.1.alloc _).alloc _).alloc _, h.2.2.2⟩
  · exact ((((Below.refl _ _).alloc (Nat.le_refl _) _).alloc (by simp) _).alloc (by simp; omega) _)
theorem Mid.start2 (w : World) (b bt bu : Nat) (p : NoteS) (h : NoteAt w b bt bu p) :
    Mid w (((w.alloc (.map #[] 0)).alloc (.map #[] 0)).alloc (.cells (noteCells p (w.heap.size + 1) w.heap.size) 43)).drew b bt bu p (w.heap.size + 1 + 1) (w.heap.size + 1) w.heap.size [] [] := by
  refine Mid.drew ⟨?_, Blk.new_at _ _ _ (by simp), (Mp.made_at (w.alloc _) _ _ (by simp)).alloc _, ((Mp.made w _ _).alloc _).alloc _, by omega, by omega, by omega, by omega, by simp; omega, ?_⟩
  · exact ⟨((h.1.alloc _).alloc _).alloc _, ((h.2.1.alloc _).alloc _).alloc _, ((h.2.2.1.alloc _).alloc _).alloc _, h.2.2.2⟩
  · exact ((((Below.refl _ _).alloc (Nat.le_refl _) _).alloc (by simp) _).alloc (by simp; omega) _)

attribute [local go_sem ↓] Go.wp_at_zero Go.wp_at_succ
set_option maxHeartbeats 1000000 in
theorem copied_any (b bt bu : Nat) (p : NoteS) (w : World) (h : NoteAt w b bt bu p) :
    Calls Try.prog 12 #[.pointer (some ⟨b, 0, none⟩)] w fun e w' => ∃ b' bt' bu' p', e = .returned (.pointer (some ⟨b', 0, none⟩)) ∧ NoteAt w' b' bt' bu' p' ∧ p'.low = p.low ∧ p'.high = p.high ∧ p'.now = p.now ∧
      (∀ k, aget k false p'.taken = aget k false p.taken) ∧ (∀ k, aget k 0 p'.fre = aget k 0 p.fre) ∧ w.heap.size ≤ b' ∧ w.heap.size ≤ bt' ∧ w.heap.size ≤ bu' ∧ Below w.heap.size w w' := by
  have hnd1 := Lib.hid h.2.1.nodup
  have hnd2 := Lib.hid h.2.2.1.nodup
  have k3 := Lib.hid (int_key (P := Try.prog) (k := 3) Try.underlying3)
  go_enter Try.func12, Try.ntmps12
  go_wp2_with fail
  go_cut [3] from 8 to 27 (fun s3 wc => ∃ nb ta fa, s3 = .pointer (some ⟨nb, 0, none⟩) ∧ Mid w wc b bt bu p nb ta fa [] [])
  case first =>
    obtain ⟨c0, c1, c2, c3, c4, c5, _⟩ := h.cells
    have hbl := h.1.lt
    have hne : ¬ b = w.heap.size := by omega
    have hne1 : ¬ b = w.heap.size + 1 := by omega
    have hmm := @run_makeMap Try.prog
    have S1 := Lib.hid (Mid.start1 w b bt bu p h)
    have S2 := Lib.hid (Mid.start2 w b bt bu p h)
    go_region_held3 (fun w' => w'.cell? ⟨b, 0, none⟩ = some (.int .i64 p.low) ∧ w'.cell? ⟨b, 1, none⟩ = some (.int .i64 p.high) ∧ w'.cell? ⟨b, 2, none⟩ = some (.int .u64 p.rest) ∧ w'.cell? ⟨b, 5, none⟩ = some (.int .u64 p.now))
      (first | exact ⟨(World.cell?_drew _ _).trans (cell_alloc _ (cell_alloc _ (cell_alloc _ c0))), (World.cell?_drew _ _).trans (cell_alloc _ (cell_alloc _ (cell_alloc _ c1))), (World.cell?_drew _ _).trans (cell_alloc _ (cell_alloc _ (cell_alloc _ c2))), (World.cell?_drew _ _).trans (cell_alloc _ (cell_alloc _ (cell_alloc _ c5)))⟩ | go_keep) (fail)
    all_goals go_wp2
    all_goals go_meet
    case rel => exact ⟨_, _, _, rfl, S1.out⟩
    case rel => exact ⟨_, _, _, rfl, S2.out⟩
  case rest =>
    obtain ⟨nb, ta, fa, rfl, hM⟩ := hcut
    obtain ⟨w1, r1, it1, s1, b1⟩ := It.begin (P := Try.prog) hM.note.2.1 Try.underlying40
    have hM1 := hM.only h (Only.below (S := []) b1) (by simp)
    have d3 := hM.note.cells.2.2.2.1
    have hx := hM.blk.lt
    have hx1 := hM.mt.lt
    have hx2 := hM.mf.lt
    have hx3 := hM.size
    generalize wc.heap.size = n1 at *
    have HM1 := Lib.hid hM1
    have IT1 := Lib.hid it1
    clear hM1 it1 s1 b1
    go_wp2_with fail
    clear r1 d3 hM
    go_loopg [] p.taken.length (fun g wr => ∃ rem yl, g = rem.length ∧ Mid w wr b bt bu p nb ta fa yl [] ∧ It wr (Value.int .i64) Value.bool bt n1 p.taken rem ∧ Cpd false p.taken rem yl)
    case atStart => exact ⟨_, _, rfl, HM1.out, IT1.out, Cpd.start hnd1.out⟩
    case round =>
      clear HM1 IT1
      obtain ⟨rem, yl, rfl, hm, hit, hcp⟩ := hrel
      rcases List.eq_nil_or_concat rem with rfl | ⟨r0, q0, hq0⟩
      · have hov := hit.over (P := Try.prog) 0
        obtain ⟨w2, r2, it2, s2, b2⟩ := It.begin (P := Try.prog) hm.note.2.2.1 Try.underlying41
        have hM2 := hm.only h (Only.below (S := []) b2) (by simp)
        have d4 := hm.note.cells.2.2.2.2.1
        have hy := hm.blk.lt
        have hy1 := hm.mt.lt
        have hy2 := hm.mf.lt
        have hy3 := hm.size
        generalize wr.heap.size = n2 at *
        have HM2 := Lib.hid hM2
        have IT2 := Lib.hid it2
        have HCP := Lib.hid hcp
        clear hm hit hM2 it2 s2 b2 hcp
        go_wp2_with fail
        clear r2 d4 hov
        go_loopg [] p.fre.length (fun g wr => ∃ rem zl, g = rem.length ∧ Mid w wr b bt bu p nb ta fa yl zl ∧ It wr (Value.int .i64) (Value.int .u64) bu n2 p.fre rem ∧ Cpd 0 p.fre rem zl)
        case atStart => exact ⟨_, _, rfl, HM2.out, IT2.out, Cpd.start hnd2.out⟩
        case round =>
          clear HM2 IT2
          obtain ⟨rem, zl, rfl, hm, hit, hcp⟩ := hrel
          rcases List.eq_nil_or_concat rem with rfl | ⟨r0, q0, hq0⟩
          · have hov := hit.over (P := Try.prog) 0
            have HM := Lib.hid hm
            have HCQ := Lib.hid hcp
            clear hm hit hcp
            go_wp2
            go_ret
            have hm := HM.out
            exact ⟨nb, ta, fa, ⟨p.low, p.high, p.rest, p.now, yl, zl⟩, rfl, ⟨hm.blk, hm.mt, hm.mf, hm.ne⟩, rfl, rfl, rfl, HCP.out.done, HCQ.out.done, hm.nb0, hm.ta0, hm.fa0, hm.bel⟩
          · have hne0 : rem ≠ [] := by rw [hq0]; simp
            clear hq0
            obtain ⟨i, hi, wa, ra, ea, ita, sa, oa⟩ := hit.step (P := Try.prog) hne0 0
            have hnb := hit.lt
            have hma := hm.only h oa (by simp; exact ⟨by omega, by omega, by omega, by omega⟩)
            obtain ⟨wb, rb, mb, tb⟩ := hma.mf.put (P := Try.prog) k3.out Try.underlying41 (rem[i]).1 (rem[i]).2
            have fa' := hma.blk4
            have HA : Hid (Mid w wb b bt bu p nb ta fa yl (aput (rem[i]).1 (rem[i]).2 zl) ∧ It wb (Value.int .i64) (Value.int .u64) bu n2 p.fre (rem.eraseIdx i) ∧ Cpd 0 p.fre (rem.eraseIdx i) (aput (rem[i]).1 (rem[i]).2 zl)) :=
              ⟨hma.putF h mb tb, ita.only (tb.only (S := [fa]) (by simp)) (by simp; have := h.2.2.1.lt; have := hm.fa0; omega) (by simp; omega), hcp.step i hi⟩
            have hlen : Hid ((rem.eraseIdx i).length < rem.length) := by rw [Hid, List.length_eraseIdx]; split <;> omega
            generalize (rem[i]).1 = kk at *
            generalize (rem[i]).2 = vv at *
            clear hma hm hit mb tb ita oa sa hcp hi
            go_wp2
            go_roundg (rem.eraseIdx i).length
            case measure => exact hlen.out
            case rel => exact ⟨_, _, rfl, HA.out⟩
      · have hne0 : rem ≠ [] := by rw [hq0]; simp
        clear hq0
        obtain ⟨i, hi, wa, ra, ea, ita, sa, oa⟩ := hit.step (P := Try.prog) hne0 0
        have hma := hm.only h oa (by simp; exact ⟨by omega, by omega, by omega, by omega⟩)
        obtain ⟨wb, rb, mb, tb⟩ := hma.mt.put (P := Try.prog) k3.out Try.underlying40 (rem[i]).1 (rem[i]).2
        have fa' := hma.blk3
        have HA : Hid (Mid w wb b bt bu p nb ta fa (aput (rem[i]).1 (rem[i]).2 yl) [] ∧ It wb (Value.int .i64) Value.bool bt n1 p.taken (rem.eraseIdx i) ∧ Cpd false p.taken (rem.eraseIdx i) (aput (rem[i]).1 (rem[i]).2 yl)) :=
          ⟨hma.putT h mb tb, ita.only (tb.only (S := [ta]) (by simp)) (by simp; have := h.2.1.lt; have := hm.ta0; omega) (by simp; omega), hcp.step i hi⟩
        have hlen : Hid ((rem.eraseIdx i).length < rem.length) := by rw [Hid, List.length_eraseIdx]; split <;> omega
        generalize (rem[i]).1 = kk at *
        generalize (rem[i]).2 = vv at *
        clear hma hm hit mb tb ita oa sa hcp hi
        go_wp2
        go_roundg (rem.eraseIdx i).length
        case measure => exact hlen.out
        case rel => exact ⟨_, _, rfl, HA.out⟩
end Go.Proofs.Ytnpmelonkcgpgab
