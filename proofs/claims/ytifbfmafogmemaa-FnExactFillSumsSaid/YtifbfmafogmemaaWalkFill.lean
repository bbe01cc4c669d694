/- The walk of laws.FnExactFillSums. -/
import Derived.Test.YtifbfmafogmemaaPktV
import Derived.Test.YtifbfmafogmemaaPktW
namespace Go.Proofs.Ytifbfmafogmemaa
set_option linter.unusedSimpArgs false
set_option linter.unusedVariables false
open Go.RowKit Go.ChangeShapes Go.WideShapes
set_option maxRecDepth 100000 in
set_option maxHeartbeats 2000000 in
theorem fnExactFillSums_walk (t : ByteArray) (w : World) (q0 : t.size ≤ maxLen) :
    Calls Try.prog 4 #[.string t] w fun e w' => e = .returned (.bool true) ∧ Below w.heap.size w w' := by
  unfold maxLen at q0
  by_cases h : (1048576 : Int) < (t.size : Int)
  · go_enter Try.func4, Try.ntmps4
    go_wp2
    go_ret
    exact ⟨rfl, Below.refl _ _⟩
  · have hs := fun u => specFillSums_c t u (by omega)
    have hi := fun u => implFillSums_c t u (by omega)
    obtain ⟨S, hS⟩ : ∃ S, outF t = S := ⟨_, rfl⟩
    obtain ⟨B, hB⟩ : ∃ B, goodF t = B := ⟨_, rfl⟩
    simp only [hS, hB] at hs hi
    clear hS hB
    go_enter Try.func4, Try.ntmps4
    go_wp2_with fail
    refine (hs _).mono ?_
    rintro e w1 ⟨rfl, hb⟩
    have hk : Below w.heap.size w w1 := hb
    clear hb
    go_wp2_with fail
    refine (hi _).mono ?_
    rintro e w2 ⟨rfl, hb⟩
    replace hk := ext_step hk hk.size hb
    clear hb
    go_wp2
    go_ret
    exact ⟨by simp, hk⟩
end Go.Proofs.Ytifbfmafogmemaa
