/- Plain facts about pieces that are cut. -/
import Derived.Test.YteajedcoidljhaaCut
import Derived.Test.YteajedcoidljhaaPiecesOk
namespace Go.Proofs.Yteajedcoidljhaa
set_option linter.unusedSimpArgs false
set_option linter.unusedVariables false
open Go.RowKit Go.ChangeShapes Go.WideShapes
theorem cut_spec (at_ n size : Int) (hs : 1 ≤ size) : ∀ (f : Nat) (fr : Int), n - fr ≤ f →
    (fr ≤ n → sumP (cutL f at_ n size fr) = n - fr) ∧ ∀ k x, (cutL f at_ n size fr)[k]? = some x →
      x.at_ = at_ + fr + sumP ((cutL f at_ n size fr).take k) ∧ 1 ≤ x.ln ∧ x.ln ≤ size ∧ (k + 1 < (cutL f at_ n size fr).length → x.ln = size)
  | 0, fr, h => ⟨fun h2 => by simp [cutL, sumP]; omega, fun k x hx => by simp [cutL] at hx⟩
  | f + 1, fr, h => by
    by_cases hf : fr < n
    · rw [cutL, if_pos hf]
      have ih := cut_spec at_ n size hs f (fr + size) (by omega)
      generalize hL : cutL f at_ n size (fr + size) = L at ih
      refine ⟨fun _ => ?_, fun k x hx => ?_⟩
      · by_cases hle : fr + size ≤ n
        · have h1 := ih.1 hle
          simp only [sumP, List.map_cons, List.sum_cons] at *
          rw [h1, if_pos (by omega)]; omega
        · have : L = [] := by rw [← hL]; exact cutL_end (by omega)
          subst this
          simp only [sumP, List.map_cons, List.sum_cons, List.map_nil, List.sum_nil]
          rw [if_neg (by omega)]; omega
      · cases k with
        | zero =>
          simp at hx
          subst hx
          refine ⟨by simp [sumP], by dsimp only; split <;> omega, by dsimp only; split <;> omega, fun hlen => ?_⟩
          dsimp only
          simp at hlen
          have : fr + size < n := by
            rcases Int.lt_or_le (fr + size) n with h1 | h1
            · exact h1
            · rw [← hL, cutL_end (by omega)] at hlen; simp at hlen
          rw [if_pos (by omega)]
        | succ k =>
          have hx' : L[k]? = some x := by simpa using hx
          obtain ⟨h1, h2, h3, h4⟩ := ih.2 k x hx'
          refine ⟨?_, h2, h3, fun hlen => h4 (by simpa using hlen)⟩
          have hlt : fr + size < n := by
            rcases Int.lt_or_le (fr + size) n with h1 | h1
            · exact h1
            · rw [← hL, cutL_end (by omega)] at hx'; simp at hx'
          rw [h1, if_pos (by omega)]
          simp [sumP]; omega
    · rw [cutL, if_neg hf]
      exact ⟨fun h2 => by simp [sumP]; omega, fun k x hx => by simp at hx⟩
theorem cut_len (at_ n size : Int) : ∀ (m f : Nat) (fr : Int), n - fr ≤ (m : Int) * size → (cutL f at_ n size fr).length ≤ m
  | 0, f, fr, h => by rw [cutL_end (by omega)]; simp
  | m + 1, 0, fr, h => by simp [cutL]
  | m + 1, f + 1, fr, h => by
    rw [cutL]
    split
    · have h1 : ((m + 1 : Nat) : Int) * size = (m : Int) * size + size := by rw [Int.natCast_add, Int.add_mul]; simp
      have := cut_len at_ n size m f (fr + size) (by omega)
      simp; omega
    · simp
end Go.Proofs.Yteajedcoidljhaa
