/- Contracts of spec.l02Within, spec.PutBytes, impl.PutBytes. -/
import Derived.Test.YtkfekgmdjemkbaaBytes2
namespace Go.Proofs.Ytkfekgmdjemkbaa
set_option linter.unusedSimpArgs false
set_option linter.unusedVariables false
open Go.RowKit Go.ChangeShapes Go.WideShapes
def putB (s : ByteArray) (at_ : Int) (p : ByteArray) : ByteArray := if 0 ≤ at_ ∧ at_ + p.size ≤ s.size then putG s at_.toNat p else s
def l02B (s : ByteArray) (at_ n : Int) : Bool := decide (0 ≤ at_) && (decide (at_ ≤ s.size) && decide (n ≤ s.size - at_))
end Go.Proofs.Ytkfekgmdjemkbaa
