/-
  No cell of these rows narrows 'for every input' (looked for: loops, veiled, ifaces, maps, wideKeys, modest, calm, conditions, laid).
  DERIVED. THE GIVEN ROWS OF THIS SEAT. 11 by the template 'for every input the law returns true; each argument reads behind the call as it read before'; 0 by the template 'total and deterministic' (their statements: YtnnlagmgdfhaiaaTotals.lean).
  GIVEN WITH THE SEED: the statements are not yours to turn. If you find one false, say at which input.
  Laid BY PROGRAM, IN A SANDBOX (cutbox-rows.mjs): the forced cells as the released guide's own fill.sh prints them over the translation 5892ab2fc3562752… (all of the seat's roots in one cut). By AI agents, Wed Nov 11 2026. No macro, syntax, notation, axiom, sorry.
-/
import Derived.Test.YtnnlagmgdfhaiaaChecked
import GoSem.Claim
import GoSem.ClaimJoined
import GoSem.ClaimMapViews
import Derived.JoinedTies
import Derived.KernelRfl
namespace Go.Proofs.Ytnnlagmgdfhaiaa
/- THE CELL 'sum', in the pinned program and in every row, IS THE sha256 OF THE DUMP (.gsa) THAT YtnnlagmgdfhaiaaProg.lean LOADS. Nothing in Lean hashes anything: it is a label: what it is worth is what the hold of that sum in a sandbox is worth. -/
noncomputable def Try.pinned : Pinned := { name := "ytnnlagmgdfhaiaa", sum := "5892ab2fc35627528b4eacb6dbc23ffaa1e054db7afc1985155ae95256108f90", checked := Try.checked }
namespace Rows
def none {H : Type} : Left H := { results := [], args := [] }

/-- 'laws.FnBuffers': WHATEVER THE INPUT: true; the input reads as it did. -/
def fnBuffersSpec : ChangeSpec := { name := "fnBuffers", fn := fun _ => fun
  | [d] => { results := [.lit (.bool true)], args := [d] }
  | _ => none }
def fnBuffersRow : OpenClaim := { program := "ytnnlagmgdfhaiaa", sum := "5892ab2fc35627528b4eacb6dbc23ffaa1e054db7afc1985155ae95256108f90", func := "loop.example/g03312/laws.FnBuffers", spec := "fnBuffers", apart := false }
def FnBuffersSaid : Prop := fnBuffersRow.holds Try.pinned (OpenSpec.ofChange fnBuffersSpec)

/-- ITS FALSE NEIGHBOUR: 'it returns false'. Refute it at one input. -/
def fnBuffersWrong : ChangeSpec := { name := "fnBuffers", fn := fun _ => fun
  | [d] => { results := [.lit (.bool false)], args := [d] }
  | _ => none }
def FnBuffersWrongFalsely : Prop := fnBuffersRow.holds Try.pinned (OpenSpec.ofChange fnBuffersWrong)

/-- 'laws.FnMemoryRound': WHATEVER THE INPUT: true; the input reads as it did. -/
def fnMemoryRoundSpec : ChangeSpec := { name := "fnMemoryRound", fn := fun _ => fun
  | [d] => { results := [.lit (.bool true)], args := [d] }
  | _ => none }
def fnMemoryRoundRow : OpenClaim := { program := "ytnnlagmgdfhaiaa", sum := "5892ab2fc35627528b4eacb6dbc23ffaa1e054db7afc1985155ae95256108f90", func := "loop.example/g03312/laws.FnMemoryRound", spec := "fnMemoryRound", apart := false }
def FnMemoryRoundSaid : Prop := fnMemoryRoundRow.holds Try.pinned (OpenSpec.ofChange fnMemoryRoundSpec)

/-- ITS FALSE NEIGHBOUR: 'it returns false'. Refute it at one input. -/
def fnMemoryRoundWrong : ChangeSpec := { name := "fnMemoryRound", fn := fun _ => fun
  | [d] => { results := [.lit (.bool false)], args := [d] }
  | _ => none }
def FnMemoryRoundWrongFalsely : Prop := fnMemoryRoundRow.holds Try.pinned (OpenSpec.ofChange fnMemoryRoundWrong)

/-- 'laws.FnUnmapped': WHATEVER THE INPUT: true; the input reads as it did. -/
def fnUnmappedSpec : ChangeSpec := { name := "fnUnmapped", fn := fun _ => fun
  | [d] => { results := [.lit (.bool true)], args := [d] }
  | _ => none }
def fnUnmappedRow : OpenClaim := { program := "ytnnlagmgdfhaiaa", sum := "5892ab2fc35627528b4eacb6dbc23ffaa1e054db7afc1985155ae95256108f90", func := "loop.example/g03312/laws.FnUnmapped", spec := "fnUnmapped", apart := false }
def FnUnmappedSaid : Prop := fnUnmappedRow.holds Try.pinned (OpenSpec.ofChange fnUnmappedSpec)

/-- ITS FALSE NEIGHBOUR: 'it returns false'. Refute it at one input. -/
def fnUnmappedWrong : ChangeSpec := { name := "fnUnmapped", fn := fun _ => fun
  | [d] => { results := [.lit (.bool false)], args := [d] }
  | _ => none }
def FnUnmappedWrongFalsely : Prop := fnUnmappedRow.holds Try.pinned (OpenSpec.ofChange fnUnmappedWrong)

/-- 'laws.FnOnlyMapped': WHATEVER THE INPUT: true; the input reads as it did. -/
def fnOnlyMappedSpec : ChangeSpec := { name := "fnOnlyMapped", fn := fun _ => fun
  | [d] => { results := [.lit (.bool true)], args := [d] }
  | _ => none }
def fnOnlyMappedRow : OpenClaim := { program := "ytnnlagmgdfhaiaa", sum := "5892ab2fc35627528b4eacb6dbc23ffaa1e054db7afc1985155ae95256108f90", func := "loop.example/g03312/laws.FnOnlyMapped", spec := "fnOnlyMapped", apart := false }
def FnOnlyMappedSaid : Prop := fnOnlyMappedRow.holds Try.pinned (OpenSpec.ofChange fnOnlyMappedSpec)

/-- ITS FALSE NEIGHBOUR: 'it returns false'. Refute it at one input. -/
def fnOnlyMappedWrong : ChangeSpec := { name := "fnOnlyMapped", fn := fun _ => fun
  | [d] => { results := [.lit (.bool false)], args := [d] }
  | _ => none }
def FnOnlyMappedWrongFalsely : Prop := fnOnlyMappedRow.holds Try.pinned (OpenSpec.ofChange fnOnlyMappedWrong)

/-- 'laws.FnDmaRound': WHATEVER THE INPUT: true; the input reads as it did. -/
def fnDmaRoundSpec : ChangeSpec := { name := "fnDmaRound", fn := fun _ => fun
  | [d] => { results := [.lit (.bool true)], args := [d] }
  | _ => none }
def fnDmaRoundRow : OpenClaim := { program := "ytnnlagmgdfhaiaa", sum := "5892ab2fc35627528b4eacb6dbc23ffaa1e054db7afc1985155ae95256108f90", func := "loop.example/g03312/laws.FnDmaRound", spec := "fnDmaRound", apart := false }
def FnDmaRoundSaid : Prop := fnDmaRoundRow.holds Try.pinned (OpenSpec.ofChange fnDmaRoundSpec)

/-- ITS FALSE NEIGHBOUR: 'it returns false'. Refute it at one input. -/
def fnDmaRoundWrong : ChangeSpec := { name := "fnDmaRound", fn := fun _ => fun
  | [d] => { results := [.lit (.bool false)], args := [d] }
  | _ => none }
def FnDmaRoundWrongFalsely : Prop := fnDmaRoundRow.holds Try.pinned (OpenSpec.ofChange fnDmaRoundWrong)

/-- 'laws.FnScatterGather': WHATEVER THE INPUT: true; the input reads as it did. -/
def fnScatterGatherSpec : ChangeSpec := { name := "fnScatterGather", fn := fun _ => fun
  | [d] => { results := [.lit (.bool true)], args := [d] }
  | _ => none }
def fnScatterGatherRow : OpenClaim := { program := "ytnnlagmgdfhaiaa", sum := "5892ab2fc35627528b4eacb6dbc23ffaa1e054db7afc1985155ae95256108f90", func := "loop.example/g03312/laws.FnScatterGather", spec := "fnScatterGather", apart := false }
def FnScatterGatherSaid : Prop := fnScatterGatherRow.holds Try.pinned (OpenSpec.ofChange fnScatterGatherSpec)

/-- ITS FALSE NEIGHBOUR: 'it returns false'. Refute it at one input. -/
def fnScatterGatherWrong : ChangeSpec := { name := "fnScatterGather", fn := fun _ => fun
  | [d] => { results := [.lit (.bool false)], args := [d] }
  | _ => none }
def FnScatterGatherWrongFalsely : Prop := fnScatterGatherRow.holds Try.pinned (OpenSpec.ofChange fnScatterGatherWrong)

/-- 'laws.FnRingAll': WHATEVER THE INPUT: true; the input reads as it did. -/
def fnRingAllSpec : ChangeSpec := { name := "fnRingAll", fn := fun _ => fun
  | [d] => { results := [.lit (.bool true)], args := [d] }
  | _ => none }
def fnRingAllRow : OpenClaim := { program := "ytnnlagmgdfhaiaa", sum := "5892ab2fc35627528b4eacb6dbc23ffaa1e054db7afc1985155ae95256108f90", func := "loop.example/g03312/laws.FnRingAll", spec := "fnRingAll", apart := false }
def FnRingAllSaid : Prop := fnRingAllRow.holds Try.pinned (OpenSpec.ofChange fnRingAllSpec)

/-- ITS FALSE NEIGHBOUR: 'it returns false'. Refute it at one input. -/
def fnRingAllWrong : ChangeSpec := { name := "fnRingAll", fn := fun _ => fun
  | [d] => { results := [.lit (.bool false)], args := [d] }
  | _ => none }
def FnRingAllWrongFalsely : Prop := fnRingAllRow.holds Try.pinned (OpenSpec.ofChange fnRingAllWrong)

/-- 'laws.FnRingOrder': WHATEVER THE INPUT: true; the input reads as it did. -/
def fnRingOrderSpec : ChangeSpec := { name := "fnRingOrder", fn := fun _ => fun
  | [d] => { results := [.lit (.bool true)], args := [d] }
  | _ => none }
def fnRingOrderRow : OpenClaim := { program := "ytnnlagmgdfhaiaa", sum := "5892ab2fc35627528b4eacb6dbc23ffaa1e054db7afc1985155ae95256108f90", func := "loop.example/g03312/laws.FnRingOrder", spec := "fnRingOrder", apart := false }
def FnRingOrderSaid : Prop := fnRingOrderRow.holds Try.pinned (OpenSpec.ofChange fnRingOrderSpec)

/-- ITS FALSE NEIGHBOUR: 'it returns false'. Refute it at one input. -/
def fnRingOrderWrong : ChangeSpec := { name := "fnRingOrder", fn := fun _ => fun
  | [d] => { results := [.lit (.bool false)], args := [d] }
  | _ => none }
def FnRingOrderWrongFalsely : Prop := fnRingOrderRow.holds Try.pinned (OpenSpec.ofChange fnRingOrderWrong)

/-- 'laws.FnDescribed': WHATEVER THE INPUT: true; the input reads as it did. -/
def fnDescribedSpec : ChangeSpec := { name := "fnDescribed", fn := fun _ => fun
  | [d] => { results := [.lit (.bool true)], args := [d] }
  | _ => none }
def fnDescribedRow : OpenClaim := { program := "ytnnlagmgdfhaiaa", sum := "5892ab2fc35627528b4eacb6dbc23ffaa1e054db7afc1985155ae95256108f90", func := "loop.example/g03312/laws.FnDescribed", spec := "fnDescribed", apart := false }
def FnDescribedSaid : Prop := fnDescribedRow.holds Try.pinned (OpenSpec.ofChange fnDescribedSpec)

/-- ITS FALSE NEIGHBOUR: 'it returns false'. Refute it at one input. -/
def fnDescribedWrong : ChangeSpec := { name := "fnDescribed", fn := fun _ => fun
  | [d] => { results := [.lit (.bool false)], args := [d] }
  | _ => none }
def FnDescribedWrongFalsely : Prop := fnDescribedRow.holds Try.pinned (OpenSpec.ofChange fnDescribedWrong)

/-- 'laws.FnExactTxOk': WHATEVER THE INPUT: true; the input reads as it did. -/
def fnExactTxOkSpec : ChangeSpec := { name := "fnExactTxOk", fn := fun _ => fun
  | [d] => { results := [.lit (.bool true)], args := [d] }
  | _ => none }
def fnExactTxOkRow : OpenClaim := { program := "ytnnlagmgdfhaiaa", sum := "5892ab2fc35627528b4eacb6dbc23ffaa1e054db7afc1985155ae95256108f90", func := "loop.example/g03312/laws.FnExactTxOk", spec := "fnExactTxOk", apart := false }
def FnExactTxOkSaid : Prop := fnExactTxOkRow.holds Try.pinned (OpenSpec.ofChange fnExactTxOkSpec)

/-- ITS FALSE NEIGHBOUR: 'it returns false'. Refute it at one input. -/
def fnExactTxOkWrong : ChangeSpec := { name := "fnExactTxOk", fn := fun _ => fun
  | [d] => { results := [.lit (.bool false)], args := [d] }
  | _ => none }
def FnExactTxOkWrongFalsely : Prop := fnExactTxOkRow.holds Try.pinned (OpenSpec.ofChange fnExactTxOkWrong)

/-- 'laws.FnExactCompletePackets': WHATEVER THE INPUT: true; the input reads as it did. -/
def fnExactCompletePacketsSpec : ChangeSpec := { name := "fnExactCompletePackets", fn := fun _ => fun
  | [d1, d2] => { results := [.lit (.bool true)], args := [d1, d2] }
  | _ => none }
def fnExactCompletePacketsRow : OpenClaim := { program := "ytnnlagmgdfhaiaa", sum := "5892ab2fc35627528b4eacb6dbc23ffaa1e054db7afc1985155ae95256108f90", func := "loop.example/g03312/laws.FnExactCompletePackets", spec := "fnExactCompletePackets", apart := false }
def FnExactCompletePacketsSaid : Prop := fnExactCompletePacketsRow.holds Try.pinned (OpenSpec.ofChange fnExactCompletePacketsSpec)

/-- ITS FALSE NEIGHBOUR: 'it returns false'. Refute it at one input. -/
def fnExactCompletePacketsWrong : ChangeSpec := { name := "fnExactCompletePackets", fn := fun _ => fun
  | [d1, d2] => { results := [.lit (.bool false)], args := [d1, d2] }
  | _ => none }
def FnExactCompletePacketsWrongFalsely : Prop := fnExactCompletePacketsRow.holds Try.pinned (OpenSpec.ofChange fnExactCompletePacketsWrong)

/- THE SECOND FORM. 'bulk': how many values and letters a reading holds, each counted each time it is reached (what is shared counts as often as it is met; a slice's spare places count too). A statement '..UptoSaid' is the law's where the arguments, and the package variables that the reading takes, are together of bulk at most 1048576: NARROWER than '..Said'. Prove '..Said' where nothing that the law and all that it calls make is longer than what came in: it says more and counts as full. Else prove '..UptoSaid'. A law counts once. -/
mutual
def uptoBulk {H : Type} : DataW H → Nat
  | .lit (.string bytes) => bytes.length + 1
  | .lit _ => 1
  | .nil => 1
  | .ptr d => uptoBulk d + 1
  | .slice elems spare => uptoBulkAll elems + uptoBulkAll spare + 1
  | .agg parts => uptoBulkAll parts + 1
  | .iface _ d => uptoBulk d + 1
  | .map entries => uptoBulkEntries entries + 1
  | .held _ => 1
def uptoBulkAll {H : Type} : List (DataW H) → Nat
  | [] => 0
  | d :: r => uptoBulk d + uptoBulkAll r
def uptoBulkEntries {H : Type} : List (Lit × DataW H) → Nat
  | [] => 0
  | x :: r => uptoBulkEntry x + uptoBulkEntries r
def uptoBulkEntry {H : Type} : Lit × DataW H → Nat
  | (.string bytes, d) => bytes.length + uptoBulk d + 1
  | (_, d) => uptoBulk d + 1
 end
def uptoSmall : (H : Type) → List (DataW H) → Bool := fun _ ds => decide (uptoBulkAll ds ≤ 1048576)
def OpenSpec.upto (s : _root_.Go.ChangeSpec) : _root_.Go.OpenSpec := { _root_.Go.OpenSpec.ofChange s with cond := some uptoSmall }

/-- 'laws.FnBuffers', WHERE WHAT IT READS IS OF BULK AT MOST 1048576: true; the input reads as it did. -/
def fnBuffersUptoRow : OpenClaim := { program := "ytnnlagmgdfhaiaa", sum := "5892ab2fc35627528b4eacb6dbc23ffaa1e054db7afc1985155ae95256108f90", func := "loop.example/g03312/laws.FnBuffers", spec := "fnBuffers", apart := false, narrowed := true }
def FnBuffersUptoSaid : Prop := fnBuffersUptoRow.holds Try.pinned (OpenSpec.upto fnBuffersSpec)

/-- 'laws.FnMemoryRound', WHERE WHAT IT READS IS OF BULK AT MOST 1048576: true; the input reads as it did. -/
def fnMemoryRoundUptoRow : OpenClaim := { program := "ytnnlagmgdfhaiaa", sum := "5892ab2fc35627528b4eacb6dbc23ffaa1e054db7afc1985155ae95256108f90", func := "loop.example/g03312/laws.FnMemoryRound", spec := "fnMemoryRound", apart := false, narrowed := true }
def FnMemoryRoundUptoSaid : Prop := fnMemoryRoundUptoRow.holds Try.pinned (OpenSpec.upto fnMemoryRoundSpec)

/-- 'laws.FnUnmapped', WHERE WHAT IT READS IS OF BULK AT MOST 1048576: true; the input reads as it did. -/
def fnUnmappedUptoRow : OpenClaim := { program := "ytnnlagmgdfhaiaa", sum := "5892ab2fc35627528b4eacb6dbc23ffaa1e054db7afc1985155ae95256108f90", func := "loop.example/g03312/laws.FnUnmapped", spec := "fnUnmapped", apart := false, narrowed := true }
def FnUnmappedUptoSaid : Prop := fnUnmappedUptoRow.holds Try.pinned (OpenSpec.upto fnUnmappedSpec)

/-- 'laws.FnOnlyMapped', WHERE WHAT IT READS IS OF BULK AT MOST 1048576: true; the input reads as it did. -/
def fnOnlyMappedUptoRow : OpenClaim := { program := "ytnnlagmgdfhaiaa", sum := "5892ab2fc35627528b4eacb6dbc23ffaa1e054db7afc1985155ae95256108f90", func := "loop.example/g03312/laws.FnOnlyMapped", spec := "fnOnlyMapped", apart := false, narrowed := true }
def FnOnlyMappedUptoSaid : Prop := fnOnlyMappedUptoRow.holds Try.pinned (OpenSpec.upto fnOnlyMappedSpec)

/-- 'laws.FnDmaRound', WHERE WHAT IT READS IS OF BULK AT MOST 1048576: true; the input reads as it did. -/
def fnDmaRoundUptoRow : OpenClaim := { program := "ytnnlagmgdfhaiaa", sum := "5892ab2fc35627528b4eacb6dbc23ffaa1e054db7afc1985155ae95256108f90", func := "loop.example/g03312/laws.FnDmaRound", spec := "fnDmaRound", apart := false, narrowed := true }
def FnDmaRoundUptoSaid : Prop := fnDmaRoundUptoRow.holds Try.pinned (OpenSpec.upto fnDmaRoundSpec)

/-- 'laws.FnScatterGather', WHERE WHAT IT READS IS OF BULK AT MOST 1048576: true; the input reads as it did. -/
def fnScatterGatherUptoRow : OpenClaim := { program := "ytnnlagmgdfhaiaa", sum := "5892ab2fc35627528b4eacb6dbc23ffaa1e054db7afc1985155ae95256108f90", func := "loop.example/g03312/laws.FnScatterGather", spec := "fnScatterGather", apart := false, narrowed := true }
def FnScatterGatherUptoSaid : Prop := fnScatterGatherUptoRow.holds Try.pinned (OpenSpec.upto fnScatterGatherSpec)

/-- 'laws.FnRingAll', WHERE WHAT IT READS IS OF BULK AT MOST 1048576: true; the input reads as it did. -/
def fnRingAllUptoRow : OpenClaim := { program := "ytnnlagmgdfhaiaa", sum := "5892ab2fc35627528b4eacb6dbc23ffaa1e054db7afc1985155ae95256108f90", func := "loop.example/g03312/laws.FnRingAll", spec := "fnRingAll", apart := false, narrowed := true }
def FnRingAllUptoSaid : Prop := fnRingAllUptoRow.holds Try.pinned (OpenSpec.upto fnRingAllSpec)

/-- 'laws.FnRingOrder', WHERE WHAT IT READS IS OF BULK AT MOST 1048576: true; the input reads as it did. -/
def fnRingOrderUptoRow : OpenClaim := { program := "ytnnlagmgdfhaiaa", sum := "5892ab2fc35627528b4eacb6dbc23ffaa1e054db7afc1985155ae95256108f90", func := "loop.example/g03312/laws.FnRingOrder", spec := "fnRingOrder", apart := false, narrowed := true }
def FnRingOrderUptoSaid : Prop := fnRingOrderUptoRow.holds Try.pinned (OpenSpec.upto fnRingOrderSpec)

/-- 'laws.FnDescribed', WHERE WHAT IT READS IS OF BULK AT MOST 1048576: true; the input reads as it did. -/
def fnDescribedUptoRow : OpenClaim := { program := "ytnnlagmgdfhaiaa", sum := "5892ab2fc35627528b4eacb6dbc23ffaa1e054db7afc1985155ae95256108f90", func := "loop.example/g03312/laws.FnDescribed", spec := "fnDescribed", apart := false, narrowed := true }
def FnDescribedUptoSaid : Prop := fnDescribedUptoRow.holds Try.pinned (OpenSpec.upto fnDescribedSpec)

/-- 'laws.FnExactTxOk', WHERE WHAT IT READS IS OF BULK AT MOST 1048576: true; the input reads as it did. -/
def fnExactTxOkUptoRow : OpenClaim := { program := "ytnnlagmgdfhaiaa", sum := "5892ab2fc35627528b4eacb6dbc23ffaa1e054db7afc1985155ae95256108f90", func := "loop.example/g03312/laws.FnExactTxOk", spec := "fnExactTxOk", apart := false, narrowed := true }
def FnExactTxOkUptoSaid : Prop := fnExactTxOkUptoRow.holds Try.pinned (OpenSpec.upto fnExactTxOkSpec)

/-- 'laws.FnExactCompletePackets', WHERE WHAT IT READS IS OF BULK AT MOST 1048576: true; the input reads as it did. -/
def fnExactCompletePacketsUptoRow : OpenClaim := { program := "ytnnlagmgdfhaiaa", sum := "5892ab2fc35627528b4eacb6dbc23ffaa1e054db7afc1985155ae95256108f90", func := "loop.example/g03312/laws.FnExactCompletePackets", spec := "fnExactCompletePackets", apart := false, narrowed := true }
def FnExactCompletePacketsUptoSaid : Prop := fnExactCompletePacketsUptoRow.holds Try.pinned (OpenSpec.upto fnExactCompletePacketsSpec)

end Rows
end Go.Proofs.Ytnnlagmgdfhaiaa
