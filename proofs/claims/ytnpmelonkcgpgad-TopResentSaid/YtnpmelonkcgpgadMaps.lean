/- A map in memory as a list of keys and values in the order in which they were laid; no program in sight. -/
import Derived.Test.YtnpmelonkcgpgadBase
import Derived.Maps.OwnOps
import Derived.Maps.OwnSet
namespace Go.Proofs.Ytnpmelonkcgpgad
open Go.RowKit
set_option linter.unusedVariables false
set_option linter.unusedSimpArgs false

/-! ### lists of keys and values -/
section
variable {κ β : Type} [DecidableEq κ]

def apos (x : κ) : List (κ × β) → Nat → Option (Nat × β)
  | [], _ => none
  | p :: l, i => if x = p.1 then some (i, p.2) else apos x l (i + 1)
/-- What stands at x; d, where nothing does. -/
def aget (x : κ) (d : β) : List (κ × β) → β
  | [] => d
  | p :: l => if x = p.1 then p.2 else aget x d l
def ahas (x : κ) : List (κ × β) → Bool
  | [] => false
  | p :: l => if x = p.1 then true else ahas x l
def aput (x : κ) (v : β) : List (κ × β) → List (κ × β)
  | [] => [(x, v)]
  | p :: l => if x = p.1 then (x, v) :: l else p :: aput x v l
def adel (x : κ) : List (κ × β) → List (κ × β)
  | [] => []
  | p :: l => if x = p.1 then l else p :: adel x l

theorem apos_none {x : κ} : ∀ {l : List (κ × β)} {i : Nat}, ahas x l = false → apos x l i = none
  | [], _, _ => rfl
  | p :: l, i, h => by
    simp only [ahas] at h
    split at h
    · cases h
    · rename_i hne; simp only [apos]; rw [if_neg hne]; exact apos_none h
theorem apos_some {x : κ} : ∀ {l : List (κ × β)} {i : Nat} (d : β), ahas x l = true → ∃ j, apos x l i = some (i + j, aget x d l) ∧ j < l.length ∧ (∀ v, aput x v l = l.set j (x, v)) ∧ adel x l = l.eraseIdx j ∧ l[j]? = some (x, aget x d l)
  | [], _, _, h => by simp [ahas] at h
  | p :: l, i, d, h => by
    by_cases hx : x = p.1
    · refine ⟨0, ?_, by simp, ?_, ?_, ?_⟩
      · simp [apos, aget, hx]
      · intro v; simp [aput, hx]
      · simp [adel, hx]
      · simp [aget, hx]
    · simp only [ahas, if_neg hx] at h
      obtain ⟨j, h1, h2, h3, h4, h5⟩ := apos_some (i := i + 1) d h
      refine ⟨j + 1, ?_, by simp; omega, ?_, ?_, ?_⟩
      · simp only [apos, aget, if_neg hx]; rw [h1]; congr 2; omega
      · intro v; simp [aput, if_neg hx, h3]
      · simp [adel, if_neg hx, h4]
      · simp [aget, if_neg hx, h5]

theorem aget_put (x y : κ) (v d : β) : ∀ l : List (κ × β), aget y d (aput x v l) = if y = x then v else aget y d l
  | [] => by simp [aput, aget]
  | p :: l => by
    simp only [aput]
    split
    · rename_i h; simp only [aget]; by_cases hy : y = x
      · simp [hy]
      · have : ¬ y = p.1 := fun e => hy (e.trans h.symm)
        simp [hy, this]
    · rename_i h; simp only [aget]; by_cases hy : y = p.1
      · have : ¬ y = x := fun e => h (e.symm.trans hy)
        simp [hy, this, show ¬ p.1 = x from fun e => h e.symm]
      · simp [hy, aget_put x y v d l]
theorem ahas_put (x y : κ) (v : β) : ∀ l : List (κ × β), ahas y (aput x v l) = if y = x then true else ahas y l
  | [] => by simp [aput, ahas]
  | p :: l => by
    simp only [aput]
    split
    · rename_i h; simp only [ahas]; by_cases hy : y = x
      · simp [hy]
      · have : ¬ y = p.1 := fun e => hy (e.trans h.symm)
        simp [hy, this]
    · rename_i h; simp only [ahas]; by_cases hy : y = p.1
      · have : ¬ y = x := fun e => h (e.symm.trans hy)
        simp [hy, this, show ¬ p.1 = x from fun e => h e.symm]
      · simp [hy, ahas_put x y v l]
theorem ahas_mem {x : κ} : ∀ {l : List (κ × β)}, ahas x l = true ↔ x ∈ l.map Prod.fst
  | [] => by simp [ahas]
  | p :: l => by
    simp only [ahas]
    by_cases h : x = p.1
    · simp [h]
    · simp [h, ahas_mem (l := l)]
theorem aget_none {x : κ} {d : β} : ∀ {l : List (κ × β)}, ahas x l = false → aget x d l = d
  | [], _ => rfl
  | p :: l, h => by
    simp only [ahas] at h
    split at h
    · cases h
    · rename_i hne; simp only [aget, if_neg hne]; exact aget_none h
theorem adel_none {x : κ} : ∀ {l : List (κ × β)}, ahas x l = false → adel x l = l
  | [], _ => rfl
  | p :: l, h => by
    simp only [ahas] at h
    split at h
    · cases h
    · rename_i hne; simp only [adel, if_neg hne, adel_none h]
theorem ahas_del (x y : κ) : ∀ {l : List (κ × β)}, (l.map Prod.fst).Nodup → ahas y (adel x l) = if y = x then false else ahas y l
  | [], _ => by simp [adel, ahas]
  | p :: l, h => by
    simp only [List.map_cons, List.nodup_cons] at h
    simp only [adel]
    split
    · rename_i hx
      by_cases hy : y = x
      · rw [if_pos hy]
        cases hh : ahas y l
        · rfl
        · exact absurd (hx ▸ hy ▸ ahas_mem.1 hh) h.1
      · have : ¬ y = p.1 := fun e => hy (e.trans hx.symm)
        simp [ahas, hy, this]
    · rename_i hx
      simp only [ahas]
      by_cases hy : y = p.1
      · have : ¬ y = x := fun e => hx (e.symm.trans hy)
        simp [hy, show ¬ p.1 = x from fun e => hx e.symm]
      · simp [hy, ahas_del x y h.2]
theorem aget_del (x y : κ) (d : β) : ∀ {l : List (κ × β)}, (l.map Prod.fst).Nodup → aget y d (adel x l) = if y = x then d else aget y d l
  | [], _ => by simp [adel, aget]
  | p :: l, h => by
    have h0 := h
    simp only [List.map_cons, List.nodup_cons] at h
    simp only [adel]
    split
    · rename_i hx
      by_cases hy : y = x
      · rw [if_pos hy]
        refine aget_none ?_
        cases hh : ahas y l
        · rfl
        · exact absurd (hx ▸ hy ▸ ahas_mem.1 hh) h.1
      · have : ¬ y = p.1 := fun e => hy (e.trans hx.symm)
        simp [aget, hy, this]
    · rename_i hx
      simp only [aget]
      by_cases hy : y = p.1
      · have : ¬ y = x := fun e => hx (e.symm.trans hy)
        simp [hy, show ¬ p.1 = x from fun e => hx e.symm]
      · simp [hy, aget_del x y d h.2]
theorem aget_del_other {x y : κ} {d : β} (h : ¬ y = x) : ∀ {l : List (κ × β)}, aget y d (adel x l) = aget y d l
  | [] => by simp [adel]
  | p :: l => by
    simp only [adel]
    split
    · rename_i hx
      simp only [aget, if_neg (show ¬ y = p.1 from fun e => h (e.trans hx.symm))]
    · simp only [aget]
      split
      · rfl
      · exact aget_del_other h
theorem aput_keys_has {x : κ} {v : β} : ∀ {l : List (κ × β)}, ahas x l = true → (aput x v l).map Prod.fst = l.map Prod.fst
  | [], h => by simp [ahas] at h
  | p :: l, h => by
    simp only [ahas] at h
    simp only [aput]
    split
    · rename_i hx; simp [hx]
    · rename_i hx; rw [if_neg hx] at h; simp [aput_keys_has h]
theorem aput_new {x : κ} {v : β} : ∀ {l : List (κ × β)}, ahas x l = false → aput x v l = l ++ [(x, v)]
  | [], _ => rfl
  | p :: l, h => by
    simp only [ahas] at h
    split at h
    · cases h
    · rename_i hx; simp only [aput, if_neg hx, aput_new h]; rfl
theorem aput_nodup {x : κ} {v : β} {l : List (κ × β)} (h : (l.map Prod.fst).Nodup) : ((aput x v l).map Prod.fst).Nodup := by
  cases hh : ahas x l
  · rw [aput_new hh, List.map_append, List.nodup_append]
    refine ⟨h, by simp, ?_⟩
    intro a ha b hb
    simp only [List.map_cons, List.map_nil, List.mem_singleton] at hb
    subst hb
    rintro rfl
    rw [ahas_mem.2 ha] at hh
    cases hh
  · rw [aput_keys_has hh]; exact h
theorem adel_sub {x : κ} : ∀ (l : List (κ × β)), (adel x l).Sublist l
  | [] => List.Sublist.refl _
  | p :: l => by
    simp only [adel]
    split
    · exact List.sublist_cons_self _ _
    · exact (adel_sub l).cons_cons p
theorem adel_nodup {x : κ} {l : List (κ × β)} (h : (l.map Prod.fst).Nodup) : ((adel x l).map Prod.fst).Nodup := h.sublist ((adel_sub l).map _)
theorem adel_length {x : κ} : ∀ {l : List (κ × β)}, ahas x l = true → (adel x l).length + 1 = l.length
  | [], h => by simp [ahas] at h
  | p :: l, h => by
    simp only [ahas] at h
    simp only [adel]
    split
    · simp
    · rename_i hx; rw [if_neg hx] at h; simp [← adel_length h]
theorem aput_length {x : κ} {v : β} {l : List (κ × β)} : (aput x v l).length = if ahas x l then l.length else l.length + 1 := by
  cases hh : ahas x l
  · rw [aput_new hh]; simp
  · have := congrArg List.length (aput_keys_has (v := v) hh); simpa using this
end

end Go.Proofs.Ytnpmelonkcgpgad
