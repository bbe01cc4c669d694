/- Contracts of TxOk on queues as headers. -/
import Derived.Test.YtnkcomclhmlefaaTxW
import Derived.Test.YtnkcomclhmlefaaTxA
namespace Go.Proofs.Ytnkcomclhmlefaa
set_option linter.unusedSimpArgs false
set_option linter.unusedVariables false
open Go.RowKit Go.ChangeShapes Go.WideShapes
theorem implTx_c (H : TxH) (q : TxV) (w : World) (hv : H.v = q) (hq : q.sz ≤ 1048576) (h1 : I64 q.rh) (h2 : I64 q.rt) (r : TxR w w.heap.size H) :
    Calls Try.prog 8 #[.agg #[.int .i64 H.rb, .int .i64 H.rs, .int .i64 H.rh, .int .i64 H.rt, .int .i64 H.pb, .int .i64 H.ps, .int .i64 H.pc, .slice H.Ap H.np H.cp, .slice H.As H.ns H.cs, .int .i64 H.next]] w fun e w' => e = .returned (.bool (txB q)) ∧ Below w.heap.size w w' := by
  have hz := r.sz hv
  subst hv
  exact implTxOk_c H.rb H.rs H.rh H.rt H.pb H.ps H.pc H.Ap H.np H.cp H.free H.As H.ns H.cs H.L H.next w h1 h2 r.1.1 r.1.2 r.2.1.1 r.2.1.2 r.2.2 (by omega)
theorem specTx_c (H : TxH) (q : TxV) (w : World) (hv : H.v = q) (hq : q.sz ≤ 1048576) (h1 : I64 q.rh) (h2 : I64 q.rt) (r : TxR w w.heap.size H) :
    Calls Try.prog 6 #[.agg #[.int .i64 H.rb, .int .i64 H.rs, .int .i64 H.rh, .int .i64 H.rt, .int .i64 H.pb, .int .i64 H.ps, .int .i64 H.pc, .slice H.Ap H.np H.cp, .slice H.As H.ns H.cs, .int .i64 H.next]] w fun e w' => e = .returned (.bool (txB q)) ∧ Below w.heap.size w w' := by
  have hz := r.sz hv
  subst hv
  exact specTxOk_c H.rb H.rs H.rh H.rt H.pb H.ps H.pc H.Ap H.np H.cp H.free H.As H.ns H.cs H.L H.next w h1 h2 r.1.1 r.1.2 r.2.1.1 r.2.1.2 r.2.2 (by omega)
end Go.Proofs.Ytnkcomclhmlefaa
