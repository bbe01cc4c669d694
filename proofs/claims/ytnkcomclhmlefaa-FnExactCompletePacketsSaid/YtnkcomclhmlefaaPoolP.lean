/- Plain words on pools of buffers. -/
import Derived.Test.YtnkcomclhmlefaaIn
import Derived.Test.YtnkcomclhmlefaaRows2
namespace Go.Proofs.Ytnkcomclhmlefaa
set_option linter.unusedSimpArgs false
set_option linter.unusedVariables false
open Go.RowKit Go.ChangeShapes Go.WideShapes
/-- Which of the first m numbers occur in a list, as the cells of a row of bools. -/
def seenC (m : Nat) (xs : List Int) : List Value := (List.range m).map fun j : Nat => .bool (decide ((j : Int) ∈ xs))
theorem seenC_len (m : Nat) (xs : List Int) : (seenC m xs).length = m := by simp [seenC]
theorem seenC_get {m j : Nat} (xs : List Int) (h : j < m) : (seenC m xs)[j]? = some (.bool (decide ((j : Int) ∈ xs))) := by simp [seenC, h]
theorem seenC_set {m j : Nat} (xs : List Int) (h : j < m) : (seenC m xs).set j (.bool true) = seenC m (xs ++ [(j : Int)]) := by
  apply List.ext_getElem?
  intro i
  by_cases hi : i < m
  · rw [seenC_get _ hi]
    by_cases hij : j = i
    · subst hij
      rw [List.getElem?_set_self (by rw [seenC_len]; exact h)]
      simp
    · rw [List.getElem?_set_ne hij, seenC_get _ hi]
      have : ¬ (i : Int) = (j : Int) := by omega
      simp [this]
  · rw [List.getElem?_eq_none (by rw [List.length_set, seenC_len]; omega), List.getElem?_eq_none (by rw [seenC_len]; omega)]
theorem seenC_new (m : Nat) : seenC m [] = List.replicate m (.bool false) := by
  apply List.ext_getElem?
  intro i
  by_cases hi : i < m
  · rw [seenC_get _ hi]; simp [hi]
  · rw [List.getElem?_eq_none (by rw [seenC_len]; omega), List.getElem?_eq_none (by simp; omega)]
theorem made_bool (m : Nat) : (madeCells (.bool false : Value).cells (m * 1)).toList = seenC m [] := by
  rw [seenC_new]
  apply List.ext_getElem?
  intro i
  by_cases hi : i < m
  · have h1 : (madeCells (.bool false : Value).cells (m * 1)).toList[i]? = (madeCells (.bool false : Value).cells (m * 1))[i]? := by simp
    rw [h1]
    simp [madeCells, Value.cells, hi, Nat.mod_one]
  · rw [List.getElem?_eq_none (by rw [madeCells_len]; omega), List.getElem?_eq_none (by simp; omega)]
/-- The first k numbers of free buffers are in range and differ. -/
def freeR (count : Int) (l : List Int) (k : Nat) : Bool := (l.take k).all (fun x => inB x 0 (count - 1)) && decide ((l.take k).Nodup)
def poolH (base size count : Int) : Bool := inB base 0 130944 && (inB size 1 512 && inB count 0 16)
def poolB (base size count : Int) (l : List Int) : Bool := poolH base size count && freeR count l l.length
theorem freeR_next {count : Int} {l : List Int} {k : Nat} {x : Int} (h : freeR count l k = true) (hx : l[k]? = some x) (hi : inB x 0 (count - 1) = true) (hs : decide (x ∈ l.take k) = false) : freeR count l (k + 1) = true := by
  simp only [freeR, Bool.and_eq_true, decide_eq_true_eq] at *
  rw [take_next hx, List.all_append, List.nodup_append]
  refine ⟨by rw [h.1]; simp [hi], h.2, by simp, ?_⟩
  intro a ha b hb
  simp at hb; subst hb
  rintro rfl
  simp [ha] at hs
theorem freeR_bad {count : Int} {l : List Int} {k n : Nat} {x : Int} (hn : l.length = n) (hx : l[k]? = some x) (hb : (inB x 0 (count - 1) && !decide (x ∈ l.take k)) = false) : freeR count l n = false := by
  have hk : k < l.length := (List.getElem?_eq_some_iff.1 hx).1
  rw [freeR, List.take_of_length_le (by omega)]
  rcases Bool.and_eq_false_iff.1 hb with h | h
  · rw [all_at hx h]; rfl
  · have hm : x ∈ l.take k := by simpa using h
    have : ¬ l.Nodup := by
      intro hd
      have h2 : l = l.take k ++ l.drop k := (List.take_append_drop k l).symm
      rw [h2, List.nodup_append] at hd
      refine hd.2.2 x hm x ?_ rfl
      rw [List.mem_iff_getElem?]
      exact ⟨0, by rw [List.getElem?_drop]; simpa using hx⟩
    simp [this]
theorem poolH_t {base size count : Int} (h : poolH base size count = true) : 0 ≤ base ∧ base ≤ 130944 ∧ 1 ≤ size ∧ size ≤ 512 ∧ 0 ≤ count ∧ count ≤ 16 := by
  simp only [poolH, Bool.and_eq_true] at h
  have := inB_t h.1; have := inB_t h.2.1; have := inB_t h.2.2
  omega
theorem poolB_t {base size count : Int} {l : List Int} (h : poolB base size count l = true) : poolH base size count = true ∧ (∀ x ∈ l, 0 ≤ x ∧ x ≤ count - 1) ∧ l.Nodup := by
  simp only [poolB, freeR, Bool.and_eq_true, decide_eq_true_eq, List.take_length, List.all_eq_true] at h
  exact ⟨h.1, fun x hx => inB_t (h.2.1 x hx), h.2.2⟩
theorem poolB_len {base size count : Int} {l : List Int} (h : poolB base size count l = true) : l.length ≤ 16 := by
  obtain ⟨h1, h2, h3⟩ := poolB_t h
  have hc := poolH_t h1
  obtain ⟨m, hm⟩ := Int.eq_ofNat_of_zero_le hc.2.2.2.2.1
  have hs : l.map Int.toNat ⊆ List.range m := by
    intro y hy
    obtain ⟨x, hx, rfl⟩ := List.mem_map.1 hy
    have := h2 x hx
    rw [List.mem_range]; omega
  have hd : (l.map Int.toNat).Nodup := by
    rw [List.nodup_iff_pairwise_ne, List.pairwise_map]
    refine List.Pairwise.imp_of_mem ?_ h3
    intro a b ha hb hab
    have := h2 a ha; have := h2 b hb
    omega
  have := List.Nodup.length_le_of_subset hd hs
  simp at this
  omega
end Go.Proofs.Ytnkcomclhmlefaa
