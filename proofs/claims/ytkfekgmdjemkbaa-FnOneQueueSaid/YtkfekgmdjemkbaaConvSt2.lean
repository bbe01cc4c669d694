/- Contracts of the laws' helpers on flow tables, spreads and steerings: to, sz, eq. -/
import Derived.Test.YtkfekgmdjemkbaaConvSt
namespace Go.Proofs.Ytkfekgmdjemkbaa
set_option linter.unusedSimpArgs false
set_option linter.unusedVariables false
open Go.RowKit Go.ChangeShapes Go.WideShapes
/-- A steering that lies in rows of the call's own. -/
def SteO (base : Nat) (rs : List Rule) (l : List Slot) (key : ByteArray) (tb : List Int) (w : World) (v : Value) : Prop := ∃ A1 c1 A2 c2 A3 c3, v = .agg #[.slice A1 rs.length c1, .slice A2 l.length c2, .string key, .slice A3 tb.length c3] ∧ w.ownsRow base 58 9 (.slice A1 rs.length c1) rs.length (rs.flatMap Rule.cells) ∧ w.ownsRow base 61 7 (.slice A2 l.length c2) l.length (l.flatMap Slot.cells) ∧ w.ownsRow base 3 1 (.slice A3 tb.length c3) tb.length (tb.flatMap fun x : Int => [Value.int .i64 x])
theorem SteO.keep {base : Nat} {rs : List Rule} {l : List Slot} {key : ByteArray} {tb : List Int} {w w' : World} {v : Value} (h : SteO base rs l key tb w v) (hb : Below w.heap.size w w') : SteO base rs l key tb w' v := by
  obtain ⟨A1, c1, A2, c2, A3, c3, h0, h1, h2, h3⟩ := h
  exact ⟨A1, c1, A2, c2, A3, c3, h0, own_ext h1 hb, own_ext h2 hb, own_ext h3 hb⟩
theorem SteO.base {base base' : Nat} {rs : List Rule} {l : List Slot} {key : ByteArray} {tb : List Int} {w : World} {v : Value} (h : SteO base rs l key tb w v) (hb : base' ≤ base) : SteO base' rs l key tb w v := by
  obtain ⟨A1, c1, A2, c2, A3, c3, h0, h1, h2, h3⟩ := h
  exact ⟨A1, c1, A2, c2, A3, c3, h0, own_base h1 hb, own_base h2 hb, own_base h3 hb⟩
end Go.Proofs.Ytkfekgmdjemkbaa
