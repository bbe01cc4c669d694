/- Plain laws on buffers that are taken and given back. -/
import Derived.Test.YtnnlagmgdfhaiaaNewPool
import Derived.Test.YtnnlagmgdfhaiaaTakeBuf
import Derived.Test.YtnnlagmgdfhaiaaGiveBuf
namespace Go.Proofs.Ytnnlagmgdfhaiaa
set_option linter.unusedSimpArgs false
set_option linter.unusedVariables false
open Go.RowKit Go.ChangeShapes Go.WideShapes
theorem new_yes {b s : Int} {n : Nat} (h : poolH b s n = true) : nbase b s n = b ∧ nsize b s n = s ∧ ncount b s n = n ∧ nfree b s n = upto n := by
  rw [nbase, nsize, ncount, nfree, h]
  refine ⟨rfl, rfl, rfl, ?_⟩
  simp
theorem pool_iff {b s : Int} {n : Nat} {l : List Int} (h : poolH b s n = true) : poolB b s n l = true ↔ (∀ x ∈ l, 0 ≤ x ∧ x < n) ∧ l.Nodup := by
  rw [poolB, h, Bool.true_and, freeR, List.take_length, Bool.and_eq_true, List.all_eq_true, decide_eq_true_eq]
  constructor
  · rintro ⟨h1, h2⟩
    refine ⟨fun x hx => ?_, h2⟩
    have := inB_t (h1 x hx)
    omega
  · rintro ⟨h1, h2⟩
    refine ⟨fun x hx => ?_, h2⟩
    have := h1 x hx
    simp [inB]; omega
/-- What FnBuffers asks. -/
theorem bufs {b s : Int} {n k : Nat} (h : poolH b s n = true) (hk : k ≤ n) :
    tkOk b s n (upto n) k = true ∧ tkF b s n (upto n) k = (upto n).drop k ∧ tkL b s n (upto n) k = (upto n).take k ∧
    gvOk b s n ((upto n).drop k) ((upto n).take k) = true ∧ gvF b s n ((upto n).drop k) ((upto n).take k) = (upto n).drop k ++ (upto n).take k ∧ poolB b s n ((upto n).drop k ++ (upto n).take k) = true ∧
    (∀ x ∈ (upto n).take k, x ∉ (upto n).drop k ∧ bufA b s n ((upto n).drop k) x = b + x * s ∧ gvOk b s n ((upto n).drop k ++ (upto n).take k) [x] = false ∧ gvF b s n ((upto n).drop k ++ (upto n).take k) [x] = (upto n).drop k ++ (upto n).take k ∧ 0 ≤ x ∧ x < n) ∧
    tkOk b s n ((upto n).drop k) ((n : Int) - k + 1) = false := by
  have h0 : ∀ x ∈ upto n, 0 ≤ x ∧ x < n := by
    intro x hx
    obtain ⟨i, hi, rfl⟩ := List.mem_map.1 hx
    have := List.mem_range.1 hi
    omega
  have hnd := upto_nodup n
  have hs : upto n = (upto n).take k ++ (upto n).drop k := (List.take_append_drop k _).symm
  have hnd2 := hnd
  rw [hs, List.nodup_append] at hnd2
  obtain ⟨d1, d2, d3⟩ := hnd2
  have u1 : poolB b s n (upto n) = true := (pool_iff h).2 ⟨h0, hnd⟩
  have q0 : ∀ x ∈ (upto n).drop k, 0 ≤ x ∧ x < n := fun x hx => h0 x (List.mem_of_mem_drop hx)
  have t0 : ∀ x ∈ (upto n).take k, 0 ≤ x ∧ x < n := fun x hx => h0 x (List.mem_of_mem_take hx)
  have u2 : poolB b s n ((upto n).drop k) = true := (pool_iff h).2 ⟨q0, d2⟩
  have u3 : poolB b s n ((upto n).drop k ++ (upto n).take k) = true := by
    refine (pool_iff h).2 ⟨fun x hx => ?_, ?_⟩
    · rcases List.mem_append.1 hx with hx | hx
      · exact q0 x hx
      · exact t0 x hx
    · rw [List.nodup_append]
      exact ⟨d2, d1, fun x hx y hy e => d3 y hy x hx e.symm⟩
  have k1 : tkOk b s n (upto n) k = true := by rw [tkOk, u1, upto_len]; simp [inB]; omega
  have g1 : gvOk b s n ((upto n).drop k) ((upto n).take k) = true := by rw [gvOk, u2, u3]; rfl
  refine ⟨k1, by rw [tkF, if_pos k1]; simp, by rw [tkL, if_pos k1]; simp, g1, by rw [gvF, if_pos g1], u3, fun x hx => ?_, ?_⟩
  · have hg : gvOk b s n ((upto n).drop k ++ (upto n).take k) [x] = false := by
      cases hc : gvOk b s n ((upto n).drop k ++ (upto n).take k) [x]
      · rfl
      · rw [gvOk, Bool.and_eq_true] at hc
        have := ((pool_iff h).1 hc.2).2
        rw [List.nodup_append] at this
        exact absurd rfl (this.2.2 x (List.mem_append_right _ hx) x (by simp))
    have hx0 := t0 x hx
    refine ⟨fun hq => d3 x hx x hq rfl, ?_, hg, by rw [gvF, hg]; rfl, hx0.1, hx0.2⟩
    rw [bufA, u2, Bool.true_and, if_pos (by simp [inB]; omega)]
  · rw [tkOk, u2, Bool.true_and, List.length_drop, upto_len]
    simp [inB]; omega
end Go.Proofs.Ytnnlagmgdfhaiaa
