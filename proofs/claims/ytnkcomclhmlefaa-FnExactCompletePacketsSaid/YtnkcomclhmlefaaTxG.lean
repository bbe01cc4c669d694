/- CompletePackets on queues as headers; sizes of what it leaves. -/
import Derived.Test.YtnkcomclhmlefaaTxF
import Derived.Test.YtnkcomclhmlefaaConvTx5
namespace Go.Proofs.Ytnkcomclhmlefaa
set_option linter.unusedSimpArgs false
set_option linter.unusedVariables false
open Go.RowKit Go.ChangeShapes Go.WideShapes
theorem implComp_c (H : TxH) (q : TxV) (n : Int) (w : World) (hv : H.v = q) (hq : q.sz ≤ 1048576) (h1 : I64 q.rh) (h2 : I64 q.rt) (hc : H.ns ≤ H.cs ∧ H.cs ≤ 9223372036854775807) (r : TxR w w.heap.size H) :
    Calls Try.prog 11 #[.agg #[.int .i64 H.rb, .int .i64 H.rs, .int .i64 H.rh, .int .i64 H.rt, .int .i64 H.pb, .int .i64 H.ps, .int .i64 H.pc, .slice H.Ap H.np H.cp, .slice H.As H.ns H.cs, .int .i64 H.next], .int .i64 n] w fun e w' => ∃ (H' : TxH) (A : Option Addr) (c : Nat), e = .returned (.tuple #[.agg #[.int .i64 H'.rb, .int .i64 H'.rs, .int .i64 H'.rh, .int .i64 H'.rt, .int .i64 H'.pb, .int .i64 H'.ps, .int .i64 H'.pc, .slice H'.Ap H'.np H'.cp, .slice H'.As H'.ns H'.cs, .int .i64 H'.next], .slice A (compC q n).length c]) ∧ H'.v = compV q n ∧ TxO w' w.heap.size H' ∧ w'.ownsRow w.heap.size 3 1 (.slice A (compC q n).length c) (compC q n).length (ints (compC q n)) ∧ (∀ g, H'.blk g → (Value.slice A (compC q n).length c).ownBlock = some g → False) ∧ Below w.heap.size w w' := implCompletePackets_c H.rb H.rs H.rh H.rt H.pb H.ps H.pc H.Ap H.np H.cp H.free H.As H.ns H.cs H.L H.next q n w hv hq h1 h2 hc.1 hc.2 r
theorem specComp_c (H : TxH) (q : TxV) (n : Int) (w : World) (hv : H.v = q) (hq : q.sz ≤ 1048576) (h1 : I64 q.rh) (h2 : I64 q.rt) (hc : H.ns ≤ H.cs ∧ H.cs ≤ 9223372036854775807) (r : TxR w w.heap.size H) :
    Calls Try.prog 10 #[.agg #[.int .i64 H.rb, .int .i64 H.rs, .int .i64 H.rh, .int .i64 H.rt, .int .i64 H.pb, .int .i64 H.ps, .int .i64 H.pc, .slice H.Ap H.np H.cp, .slice H.As H.ns H.cs, .int .i64 H.next], .int .i64 n] w fun e w' => ∃ (H' : TxH) (A : Option Addr) (c : Nat), e = .returned (.tuple #[.agg #[.int .i64 H'.rb, .int .i64 H'.rs, .int .i64 H'.rh, .int .i64 H'.rt, .int .i64 H'.pb, .int .i64 H'.ps, .int .i64 H'.pc, .slice H'.Ap H'.np H'.cp, .slice H'.As H'.ns H'.cs, .int .i64 H'.next], .slice A (compC q n).length c]) ∧ H'.v = compV q n ∧ TxR w' w'.heap.size H' ∧ Reads w' w'.heap.size 1 A (compC q n).length (ints (compC q n)) ∧ Below w.heap.size w w' := specCompletePackets_c H.rb H.rs H.rh H.rt H.pb H.ps H.pc H.Ap H.np H.cp H.free H.As H.ns H.cs H.L H.next q n w hv hq h1 h2 hc.1 hc.2 r
def totV (l : List SentV) : Nat := (l.map fun x => x.bufs.length).sum
theorem giveL_lenV (pb ps pc : Int) : ∀ (l : List SentV) (fr : List Int), (giveL pb ps pc fr l).length ≤ fr.length + totV l
  | [], fr => by simp [giveL, totV]
  | x :: l, fr => by
    have h1 := giveL_lenV pb ps pc l (gvF pb ps pc fr x.bufs)
    have h2 := gvF_len2 pb ps pc fr x.bufs
    simp only [totV, List.map_cons, List.sum_cons] at *
    show (giveL pb ps pc (gvF pb ps pc fr x.bufs) l).length ≤ _
    omega
theorem compV_sz (q : TxV) (n : Int) : (compV q n).sz ≤ q.sz := by
  unfold compV
  split
  · have h1 := giveL_lenV q.pb q.ps q.pc (q.wait.take n.toNat) q.free
    have h2 : totV q.wait = totV (q.wait.take n.toNat) + totV (q.wait.drop n.toNat) := by
      rw [totV, totV, totV, ← List.sum_append, ← List.map_append, List.take_append_drop]
    simp only [TxV.sz, totV, List.length_drop] at *
    omega
  · exact Nat.le_refl _
theorem compC_len (q : TxV) (n : Int) : (compC q n).length ≤ q.sz := by
  unfold compC
  split
  · simp only [List.length_map, List.length_take, TxV.sz]; omega
  · simp
theorem markQ_blk {q : Int} {H : TxH} {g : Nat} (h : (markQ q H).blk g) : H.blk g := by
  rcases h with h | h | ⟨x, hx, h⟩
  · exact .inl h
  · exact .inr (.inl h)
  · obtain ⟨y, hy, e⟩ := markH_ob hx
    exact .inr (.inr ⟨y, hy, e ▸ h⟩)
end Go.Proofs.Ytnkcomclhmlefaa
