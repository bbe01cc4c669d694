/- Contracts of the reference's draws: l17Mapping. -/
import Derived.Test.YtifbfmafogmemaaDraw3
namespace Go.Proofs.Ytifbfmafogmemaa
set_option linter.unusedSimpArgs false
set_option linter.unusedVariables false
open Go.RowKit Go.ChangeShapes Go.WideShapes
theorem blk_kept {w w1 : World} {b : Nat} {T : TypeId} {cs : List Value} {row : Option Nat} (h : Blk w b T cs) (hg : w.grownBy w1 row) (hne : row ≠ some b) : Blk w1 b T cs :=
  (hg.block b h.lt (fun e => hne e.symm)).trans h
theorem Blk.far' {w : World} {g : Nat} {t : TypeId} {cs : List Value} (h : Blk w g t cs) {p : Addr} (hp : p.block ≠ g) (u : Value) : Blk (w.setCell p u) g t cs :=
  (Below.heap_setCell w p u g (Ne.symm hp)).trans h
def DrawM (g : Nat) (A : Option Addr) (n c : Nat) (w : World) (e : Ending) (w' : World) : Prop := ∃ (dom vir phy : Int) (wb : Bool), (0 ≤ dom ∧ dom < 2 ∧ 0 ≤ vir ∧ vir < 8 ∧ 0 ≤ phy ∧ phy < 6) ∧ e = .returned (.agg #[.int .i64 dom, .int .i64 vir, .int .i64 phy, .bool wb]) ∧ Cur w' g A n c ∧ w.grownBy w' (some g)
end Go.Proofs.Ytifbfmafogmemaa
