/- A struct that is returned out of its block. -/
import Derived.Test.YtkfekgmdjemkbaaRows2
namespace Go.Proofs.Ytkfekgmdjemkbaa
set_option linter.unusedSimpArgs false
set_option linter.unusedVariables false
open Go.RowKit Go.ChangeShapes Go.WideShapes
/-- A variable of a struct's type is loaded out of its block. -/
theorem loadVar_blk {P : Program} {w : World} {b n : Nat} {T : TypeId} {cs : List Value} (hk : Blk w b T cs) (hn : cs.length = n) (h1 : (isAgg T).run P w = .ok true w) (h2 : (sizeOf T).run P w = .ok n w) :
    (loadVar T ⟨b, 0, none⟩).run P w = .ok (.agg cs.toArray) w := by
  have hld := run_loadCells_list (P := P) (w := w) ⟨b, 0, none⟩ cs (fun j v hj => by have h3 := (hk.cell j).trans hj; by_cases h0 : j = 0 <;> simp_all [Addr.add])
  subst hn
  simp [loadVar, Sem.run_bind, h1, h2, hld, Result.andThen]
end Go.Proofs.Ytkfekgmdjemkbaa
