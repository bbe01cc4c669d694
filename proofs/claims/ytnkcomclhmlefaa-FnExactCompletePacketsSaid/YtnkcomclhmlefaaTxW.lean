/- Contracts on queues as headers: to, eq; a queue of the call's own as a predicate. -/
import Derived.Test.YtnkcomclhmlefaaConvTx2
namespace Go.Proofs.Ytnkcomclhmlefaa
set_option linter.unusedSimpArgs false
set_option linter.unusedVariables false
open Go.RowKit Go.ChangeShapes Go.WideShapes
def TxV.sz (q : TxV) : Nat := q.free.length + q.wait.length + (q.wait.map fun x => x.bufs.length).sum
theorem TxR.sz {w : World} {B : Nat} {H : TxH} {q : TxV} (h : TxR w B H) (hv : H.v = q) : H.np + H.ns + totB H.L = q.sz := by
  subst hv
  have h3 : ((H.L.map SentH.v).map fun x => x.bufs.length).sum = totB H.L := by
    have h4 := h.2.2
    generalize H.L = L at h4
    induction L with
    | nil => rfl
    | cons x L ih =>
      have h5 := ih (h4.sub fun y hy => List.mem_cons_of_mem _ hy)
      have h6 := (h4 x (List.mem_cons_self ..)).1
      simp only [totB, List.map_cons, List.sum_cons, SentH.v] at *
      omega
  simp only [TxV.sz, TxH.v, h.1.1, h3, List.length_map, h.2.1.1]
/-- A queue that lies in rows of the call's own. -/
def TxP (base : Nat) (q : TxV) (w : World) (v : Value) : Prop := ∃ H : TxH, v = .agg #[.int .i64 H.rb, .int .i64 H.rs, .int .i64 H.rh, .int .i64 H.rt, .int .i64 H.pb, .int .i64 H.ps, .int .i64 H.pc, .slice H.Ap H.np H.cp, .slice H.As H.ns H.cs, .int .i64 H.next] ∧ H.v = q ∧ TxO w base H
theorem TxP.keep {base : Nat} {q : TxV} {w w' : World} {v : Value} (h : TxP base q w v) (hb : Below w.heap.size w w') : TxP base q w' v := by
  obtain ⟨H, h0, h1, h2⟩ := h
  exact ⟨H, h0, h1, h2.ext hb⟩
theorem TxP.lower {base base' : Nat} {q : TxV} {w : World} {v : Value} (h : TxP base q w v) (hb : base' ≤ base) : TxP base' q w v := by
  obtain ⟨H, h0, h1, h2⟩ := h
  exact ⟨H, h0, h1, h2.lower hb⟩
theorem toTx_c (H : TxH) (q : TxV) (w : World) (hv : H.v = q) (hq : q.sz ≤ 1048576) (r : TxR w w.heap.size H) :
    Calls Try.prog 7 #[.agg #[.int .i64 H.rb, .int .i64 H.rs, .int .i64 H.rh, .int .i64 H.rt, .int .i64 H.pb, .int .i64 H.ps, .int .i64 H.pc, .slice H.Ap H.np H.cp, .slice H.As H.ns H.cs, .int .i64 H.next]] w fun e w' => ∃ v, e = .returned v ∧ TxP w.heap.size q w' v ∧ Below w.heap.size w w' := by
  have hz := r.sz hv
  subst hv
  refine (toTxQueue_c H.rb H.rs H.rh H.rt H.pb H.ps H.pc H.Ap H.np H.cp H.free H.As H.ns H.cs H.L H.next w r.1.1 r.1.2 r.2.1.1 r.2.1.2 r.2.2 (by omega)).mono ?_
  rintro e w' ⟨H', he, h1, h2, h3⟩
  exact ⟨_, he, ⟨H', rfl, h1, h2⟩, h3⟩
theorem eqTx_c (H H' : TxH) (q : TxV) (w : World) (hv : H.v = q) (hv' : H'.v = q) (hq : q.sz ≤ 1048576) (r : TxR w w.heap.size H) (r' : TxR w w.heap.size H') :
    Calls Try.prog 9 #[.agg #[.int .i64 H.rb, .int .i64 H.rs, .int .i64 H.rh, .int .i64 H.rt, .int .i64 H.pb, .int .i64 H.ps, .int .i64 H.pc, .slice H.Ap H.np H.cp, .slice H.As H.ns H.cs, .int .i64 H.next], .agg #[.int .i64 H'.rb, .int .i64 H'.rs, .int .i64 H'.rh, .int .i64 H'.rt, .int .i64 H'.pb, .int .i64 H'.ps, .int .i64 H'.pc, .slice H'.Ap H'.np H'.cp, .slice H'.As H'.ns H'.cs, .int .i64 H'.next]] w fun e w' => e = .returned (.bool true) ∧ Below w.heap.size w w' := by
  have hz := r.sz hv
  have hz' := r'.sz hv'
  obtain ⟨⟨a1, a2⟩, ⟨a3, a4⟩, a5⟩ := r
  obtain ⟨⟨b1, b2⟩, ⟨b3, b4⟩, b5⟩ := r'
  subst hv
  obtain ⟨rb, rs, rh, rt, pb, ps, pc, Ap, np, cp, free, As, ns, cs, L, next⟩ := H
  obtain ⟨rb', rs', rh', rt', pb', ps', pc', Ap', np', cp', free', As', ns', cs', L', next'⟩ := H'
  simp only [TxH.v, TxV.mk.injEq] at hv'
  obtain ⟨rfl, rfl, rfl, rfl, rfl, rfl, rfl, rfl, hL, rfl⟩ := hv'
  dsimp only at *
  have hll := map_v_len hL
  obtain rfl : np' = np := b1.symm.trans a1
  obtain rfl : ns' = ns := by omega
  exact eqTxQueue_c _ _ _ _ _ _ _ Ap _ cp _ As _ cs L _ Ap' cp' As' cs' L' w hL (by omega) a1 a2 a3 a4 a5 b2 b4 b5
end Go.Proofs.Ytnkcomclhmlefaa
