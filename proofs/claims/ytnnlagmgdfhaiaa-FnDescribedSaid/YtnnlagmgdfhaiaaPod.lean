/- Contracts of l19Same and PiecesOfDescs: impl and spec. -/
import Derived.Test.YtnnlagmgdfhaiaaDescribe
namespace Go.Proofs.Ytnnlagmgdfhaiaa
set_option linter.unusedSimpArgs false
set_option linter.unusedVariables false
open Go.RowKit Go.ChangeShapes Go.WideShapes
noncomputable def same (a b : List Desc) : Bool := @decide (a = b) (Classical.propDecidable _)
theorem same_t {a b : List Desc} (h : a = b) : same a b = true := by unfold same; exact @decide_eq_true _ (Classical.propDecidable _) h
theorem same_f {a b : List Desc} (h : ¬ a = b) : same a b = false := by unfold same; exact @decide_eq_false _ (Classical.propDecidable _) h
theorem desc_neq {x y : Desc} (h : ¬ x = y) (w : World) : (binOp .neq 84 (.agg #[.int .i64 x.op, .int .i64 x.fl, .int .i64 x.ln, .int .i64 x.at_, .int .i64 x.sz, .int .i64 x.ck]) (.agg #[.int .i64 y.op, .int .i64 y.fl, .int .i64 y.ln, .int .i64 y.at_, .int .i64 y.sz, .int .i64 y.ck])).run Try.prog w = .ok (.bool true) w := by
  obtain ⟨a1, a2, a3, a4, a5, a6⟩ := x
  obtain ⟨b1, b2, b3, b4, b5, b6⟩ := y
  have hu := Try.underlying84
  by_cases h1 : a1 = b1
  · by_cases h2 : a2 = b2
    · by_cases h3 : a3 = b3
      · by_cases h4 : a4 = b4
        · by_cases h5 : a5 = b5
          · by_cases h6 : a6 = b6
            · exact absurd (by rw [h1, h2, h3, h4, h5, h6]) h
            · subst h1; subst h2; subst h3; subst h4; subst h5; simp [go_sem, h6]
          · subst h1; subst h2; subst h3; subst h4; simp [go_sem, h5]
        · subst h1; subst h2; subst h3; simp [go_sem, h4]
      · subst h1; subst h2; simp [go_sem, h3]
    · subst h1; simp [go_sem, h2]
  · simp [go_sem, h1]
theorem desc_same (x : Desc) (w : World) : (binOp .neq 84 (.agg #[.int .i64 x.op, .int .i64 x.fl, .int .i64 x.ln, .int .i64 x.at_, .int .i64 x.sz, .int .i64 x.ck]) (.agg #[.int .i64 x.op, .int .i64 x.fl, .int .i64 x.ln, .int .i64 x.at_, .int .i64 x.sz, .int .i64 x.ck])).run Try.prog w = .ok (.bool false) w := by
  have hu := Try.underlying84
  simp [go_sem]
def dHd (l : List Desc) : Desc := l.headD ⟨0, 0, 0, 0, 0, 0⟩
def podP (l : List Desc) : List Piece := (l.drop 1).map fun x => ⟨x.at_, x.ln⟩
noncomputable def podB (l : List Desc) : Bool := decide (2 ≤ l.length) && same (dpL (podP l) (dHd l).sz (dHd l).ck) l
noncomputable def podR (l : List Desc) : List Piece := if podB l then podP l else []
noncomputable def podS (l : List Desc) : Int := if podB l then (dHd l).sz else 0
noncomputable def podC (l : List Desc) : Int := if podB l then (dHd l).ck else 0
theorem pod_no {l : List Desc} (h : podB l = false) : podR l = [] ∧ podS l = 0 ∧ podC l = 0 := by rw [podR, podS, podC, h]; exact ⟨rfl, rfl, rfl⟩
theorem pod_yes {l : List Desc} (h : podB l = true) : podR l = podP l ∧ podS l = (dHd l).sz ∧ podC l = (dHd l).ck := by rw [podR, podS, podC, h]; exact ⟨rfl, rfl, rfl⟩
theorem podP_len (l : List Desc) : (podP l).length = l.length - 1 := by simp [podP]
theorem podP_next {l : List Desc} {k : Nat} {x : Desc} (hx : l[k + 1]? = some x) : (podP l).take (k + 1) = (podP l).take k ++ [⟨x.at_, x.ln⟩] := by
  refine take_next ?_
  rw [podP, List.getElem?_map, List.getElem?_drop, Nat.add_comm, hx]; rfl
theorem podP_ok {l : List Desc} (h : ∀ x ∈ l, x.ok) : ∀ x ∈ podP l, x.ok := by
  intro x hx
  obtain ⟨y, hy, rfl⟩ := List.mem_map.1 hx
  have := h y (List.mem_of_mem_drop hy)
  exact ⟨this.2.2.2.1, this.2.2.1⟩
end Go.Proofs.Ytnnlagmgdfhaiaa
