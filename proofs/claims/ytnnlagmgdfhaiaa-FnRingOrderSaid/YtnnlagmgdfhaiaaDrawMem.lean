/- Contracts of the reference's draws: l16Memory. -/
import Derived.Test.YtnnlagmgdfhaiaaDraw4
import Derived.Test.YtnnlagmgdfhaiaaNewMem
import Derived.Test.YtnnlagmgdfhaiaaRunsP
import Derived.Deep.RegionHeld3
namespace Go.Proofs.Ytnnlagmgdfhaiaa
set_option linter.unusedSimpArgs false
set_option linter.unusedVariables false
open Go.RowKit Go.ChangeShapes Go.WideShapes
theorem writeG_all : ∀ (f : Nat) (l : List ByteArray) (a : Nat) (s : ByteArray), (∀ (k : Nat) (x : ByteArray), l[k]? = some x → x.size = 128) → a + s.size ≤ 128 * l.length → ∀ (k : Nat) (x : ByteArray), (writeG f l a s)[k]? = some x → x.size = 128
  | 0, l, a, s, h, _ => by rw [writeG]; exact h
  | f + 1, l, a, s, h, ha => by
    rw [writeG]
    by_cases h0 : 0 < s.size
    · rw [if_pos h0]
      have hp1 : partN' a s.size ≤ s.size := by unfold partN'; omega
      have hp2 : partN' a s.size ≤ 128 - a % 128 := by unfold partN'; omega
      have hlt : a / 128 < l.length := by omega
      have hx : l[a / 128]? = some l[a / 128] := List.getElem?_eq_getElem hlt
      have h128 := h _ _ hx
      have hg : l.getD (a / 128) ByteArray.empty = l[a / 128] := by rw [List.getD_eq_getElem?_getD, hx]; rfl
      refine writeG_all f _ _ _ (set_all h ?_) ?_
      · rw [putG_size]
        · rw [hg]; exact h128
        · rw [hg, h128, ByteArray.size_extract]; omega
      · rw [List.length_set, ByteArray.size_extract]; omega
    · rw [if_neg h0]; exact h
theorem memB_all {l : List ByteArray} (h : memB l = true) : ∀ (k : Nat) (x : ByteArray), l[k]? = some x → x.size = 128 := fun _ _ hx => memB_el h hx
theorem memB_write {l : List ByteArray} (h : memB l = true) (a : Int) (s : ByteArray) : memB (writeL l a s) = true := by
  have hl := memB_len h
  have hlen := writeL_len' l a s
  simp only [memB, Bool.and_eq_true, List.all_eq_true, decide_eq_true_eq]
  refine ⟨fun x hx => ?_, by rw [hlen]; exact hl⟩
  obtain ⟨k, hk⟩ := List.getElem?_of_mem hx
  unfold writeL at hk
  split at hk
  · rename_i hw
    obtain ⟨_, w1, w2, w3⟩ := withB_t hw
    exact writeG_all _ _ _ _ (memB_all h) (by omega) k x hk
  · exact memB_all h k x hk
theorem memB_new {k : Int} (h0 : 0 ≤ k) (h1 : k ≤ 64) : memB (newL k) = true ∧ ((newL k).length : Int) = k := by
  have hi : inB k 0 64 = true := by simp [inB, h0, h1]
  rw [newL, if_pos hi]
  refine ⟨?_, by rw [List.length_replicate]; omega⟩
  simp only [memB, Bool.and_eq_true, List.all_eq_true, decide_eq_true_eq, List.length_replicate]
  exact ⟨fun x hx => by rw [List.eq_of_mem_replicate hx]; exact repB_size _ _, by omega⟩
end Go.Proofs.Ytnnlagmgdfhaiaa
