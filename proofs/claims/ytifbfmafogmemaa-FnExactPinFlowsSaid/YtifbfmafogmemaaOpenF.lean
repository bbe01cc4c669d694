/- What a reading of a []Flow gives. -/
import Derived.Test.YtifbfmafogmemaaStP
namespace Go.Proofs.Ytifbfmafogmemaa
set_option linter.unusedSimpArgs false
set_option linter.unusedVariables false
open Go.RowKit Go.ChangeShapes Go.WideShapes
variable {H : Type} {enc : TypeId × Value → H} {w : World} {base : Nat} {spare : Nat → Bool} {held : Bool}
def SlFlow (w : World) (A : Option Addr) (n c : Nat) (l : List Flow) : Prop := SlOf Flow.cells 5 w A n c l ∧ ∀ x ∈ l, x.ok
theorem read_slFlow {fuel : Nat} {cs : List Value} {x : DataW H × List MemPlace} (h : DataW.trod enc Try.prog w base spare held fuel 62 cs = some x) :
    ∃ (A : Option Addr) (n c : Nat) (l : List Flow), cs = [.slice A n c] ∧ SlFlow w A n c l := by
  haveI : Inhabited Flow := ⟨⟨0, 0, 0, 0, 0⟩⟩
  exact read_slOf Try.underlying62 cells_Flow Flow.cells Flow.ok (fun _ => rfl) (by decide) (fun h => by
    obtain ⟨kind, sip, dip, sport, dport, e, w0, w1, w2, w3, w4⟩ := read_Flow h
    exact ⟨⟨kind, sip, dip, sport, dport⟩, e, w0, w1, w2, w3, w4⟩) h
theorem cells_slFlow : Try.prog.cellsOf 62 = 1 := by kernel_rfl
end Go.Proofs.Ytifbfmafogmemaa
