/- What a reading of a []byte gives. -/
import Derived.Test.YtifbfmafogmemaaOpen
namespace Go.Proofs.Ytifbfmafogmemaa
set_option linter.unusedSimpArgs false
set_option linter.unusedVariables false
open Go.RowKit Go.ChangeShapes Go.WideShapes
variable {H : Type} {enc : TypeId × Value → H} {w : World} {base : Nat} {spare : Nat → Bool} {held : Bool}
theorem cells_u8 : Try.prog.cellsOf 5 = 1 := by kernel_rfl
def SlBytes (w : World) (A : Option Addr) (n c : Nat) (l : List Int) : Prop := SlOf (fun x : Int => [Value.int .u8 x]) 1 w A n c l ∧ ∀ x ∈ l, 0 ≤ x ∧ x ≤ 255
theorem read_slbytes {fuel : Nat} {cs : List Value} {x : DataW H × List MemPlace} (h : DataW.trod enc Try.prog w base spare held fuel 36 cs = some x) :
    ∃ (A : Option Addr) (n c : Nat) (l : List Int), cs = [.slice A n c] ∧ SlBytes w A n c l := by
  exact read_slOf Try.underlying36 cells_u8 (fun x : Int => [Value.int .u8 x]) (fun x => 0 ≤ x ∧ x ≤ 255) (fun _ => rfl) (by decide) (fun h => by
    obtain ⟨n, e, _, wn⟩ := DataW.trod_int Try.underlying5 h
    exact ⟨n, e, by simp [Lit.wf, IntKind.min, IntKind.max, IntKind.signed, IntKind.bits] at wn; omega⟩) h
end Go.Proofs.Ytifbfmafogmemaa
