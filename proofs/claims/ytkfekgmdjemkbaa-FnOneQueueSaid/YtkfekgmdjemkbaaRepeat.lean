/- Contracts of impl.repeat and spec.l01Long: equal bytes. -/
import Derived.Test.YtkfekgmdjemkbaaRows2
namespace Go.Proofs.Ytkfekgmdjemkbaa
set_option linter.unusedSimpArgs false
set_option linter.unusedVariables false
open Go.RowKit Go.ChangeShapes Go.WideShapes
/-- n equal bytes. -/
def repB (x : Int) (n : Nat) : ByteArray := strOfNums (List.replicate n x)
theorem repB_size (x : Int) (n : Nat) : (repB x n).size = n := by rw [repB, strOfNums_size]; simp
theorem info_u8 : (Try.prog.info? 5).map (fun i => (i.zero, i.size, i.bytes)) = some (some (.int .u8 0), 1, 1) := by kernel_rfl
theorem take_set_rep {x : Int} {cs : List Value} {k n : Nat} (hl : cs.length = n) (hk : k < n) (h : cs.take k = List.replicate k (.int .u8 x)) : (cs.set k (.int .u8 x)).take (k + 1) = List.replicate (k + 1) (.int .u8 x) := by
  rw [List.take_add_one, List.take_set_of_le (Nat.le_refl _), h, List.getElem?_set_self (by omega), List.replicate_succ']
  rfl
end Go.Proofs.Ytkfekgmdjemkbaa
