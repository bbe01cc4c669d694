/-
  No cell of these rows narrows 'for every input' (looked for: loops, veiled, ifaces, maps, wideKeys, modest, calm, conditions, laid).
  DERIVED. THE GIVEN ROWS OF THIS SEAT. 12 by the template 'for every input the law returns true; each argument reads behind the call as it read before'; 0 by the template 'total and deterministic' (their statements: YtjeenjblenpinaaTotals.lean).
  GIVEN WITH THE SEED: the statements are not yours to turn. If you find one false, say at which input.
  Laid BY PROGRAM, IN A SANDBOX (cutbox-rows.mjs): the forced cells as the released guide's own fill.sh prints them over the translation 2c105aa825bbb51a… (all of the seat's roots in one cut). By AI agents, Wed Nov 11 2026. No macro, syntax, notation, axiom, sorry.
-/
import Derived.Test.YtjeenjblenpinaaChecked
import GoSem.Claim
import GoSem.ClaimJoined
import GoSem.ClaimMapViews
import Derived.JoinedTies
import Derived.KernelRfl
namespace Go.Proofs.Ytjeenjblenpinaa
/- THE CELL 'sum', in the pinned program and in every row, IS THE sha256 OF THE DUMP (.gsa) THAT YtjeenjblenpinaaProg.lean LOADS. Nothing in Lean hashes anything: it is a label: what it is worth is what the hold of that sum in a sandbox is worth. -/
noncomputable def Try.pinned : Pinned := { name := "ytjeenjblenpinaa", sum := "2c105aa825bbb51a66506a2dda2c391ecc8a8760056e52a43b3d36fa6f5544ec", checked := Try.checked }
namespace Rows
def none {H : Type} : Left H := { results := [], args := [] }

/-- 'laws.FnExactDmaRead': WHATEVER THE INPUT: true; the input reads as it did. -/
def fnExactDmaReadSpec : ChangeSpec := { name := "fnExactDmaRead", fn := fun _ => fun
  | [d1, d2, d3, d4, d5] => { results := [.lit (.bool true)], args := [d1, d2, d3, d4, d5] }
  | _ => none }
def fnExactDmaReadRow : OpenClaim := { program := "ytjeenjblenpinaa", sum := "2c105aa825bbb51a66506a2dda2c391ecc8a8760056e52a43b3d36fa6f5544ec", func := "loop.example/g03312/laws.FnExactDmaRead", spec := "fnExactDmaRead", apart := false }
def FnExactDmaReadSaid : Prop := fnExactDmaReadRow.holds Try.pinned (OpenSpec.ofChange fnExactDmaReadSpec)

/-- ITS FALSE NEIGHBOUR: 'it returns false'. Refute it at one input. -/
def fnExactDmaReadWrong : ChangeSpec := { name := "fnExactDmaRead", fn := fun _ => fun
  | [d1, d2, d3, d4, d5] => { results := [.lit (.bool false)], args := [d1, d2, d3, d4, d5] }
  | _ => none }
def FnExactDmaReadWrongFalsely : Prop := fnExactDmaReadRow.holds Try.pinned (OpenSpec.ofChange fnExactDmaReadWrong)

/-- 'laws.FnExactDmaWrite': WHATEVER THE INPUT: true; the input reads as it did. -/
def fnExactDmaWriteSpec : ChangeSpec := { name := "fnExactDmaWrite", fn := fun _ => fun
  | [d1, d2, d3, d4, d5] => { results := [.lit (.bool true)], args := [d1, d2, d3, d4, d5] }
  | _ => none }
def fnExactDmaWriteRow : OpenClaim := { program := "ytjeenjblenpinaa", sum := "2c105aa825bbb51a66506a2dda2c391ecc8a8760056e52a43b3d36fa6f5544ec", func := "loop.example/g03312/laws.FnExactDmaWrite", spec := "fnExactDmaWrite", apart := false }
def FnExactDmaWriteSaid : Prop := fnExactDmaWriteRow.holds Try.pinned (OpenSpec.ofChange fnExactDmaWriteSpec)

/-- ITS FALSE NEIGHBOUR: 'it returns false'. Refute it at one input. -/
def fnExactDmaWriteWrong : ChangeSpec := { name := "fnExactDmaWrite", fn := fun _ => fun
  | [d1, d2, d3, d4, d5] => { results := [.lit (.bool false)], args := [d1, d2, d3, d4, d5] }
  | _ => none }
def FnExactDmaWriteWrongFalsely : Prop := fnExactDmaWriteRow.holds Try.pinned (OpenSpec.ofChange fnExactDmaWriteWrong)

/-- 'laws.FnExactHostWrite': WHATEVER THE INPUT: true; the input reads as it did. -/
def fnExactHostWriteSpec : ChangeSpec := { name := "fnExactHostWrite", fn := fun _ => fun
  | [d1, d2, d3, d4, d5] => { results := [.lit (.bool true)], args := [d1, d2, d3, d4, d5] }
  | _ => none }
def fnExactHostWriteRow : OpenClaim := { program := "ytjeenjblenpinaa", sum := "2c105aa825bbb51a66506a2dda2c391ecc8a8760056e52a43b3d36fa6f5544ec", func := "loop.example/g03312/laws.FnExactHostWrite", spec := "fnExactHostWrite", apart := false }
def FnExactHostWriteSaid : Prop := fnExactHostWriteRow.holds Try.pinned (OpenSpec.ofChange fnExactHostWriteSpec)

/-- ITS FALSE NEIGHBOUR: 'it returns false'. Refute it at one input. -/
def fnExactHostWriteWrong : ChangeSpec := { name := "fnExactHostWrite", fn := fun _ => fun
  | [d1, d2, d3, d4, d5] => { results := [.lit (.bool false)], args := [d1, d2, d3, d4, d5] }
  | _ => none }
def FnExactHostWriteWrongFalsely : Prop := fnExactHostWriteRow.holds Try.pinned (OpenSpec.ofChange fnExactHostWriteWrong)

/-- 'laws.FnExactGatherPieces': WHATEVER THE INPUT: true; the input reads as it did. -/
def fnExactGatherPiecesSpec : ChangeSpec := { name := "fnExactGatherPieces", fn := fun _ => fun
  | [d1, d2, d3, d4] => { results := [.lit (.bool true)], args := [d1, d2, d3, d4] }
  | _ => none }
def fnExactGatherPiecesRow : OpenClaim := { program := "ytjeenjblenpinaa", sum := "2c105aa825bbb51a66506a2dda2c391ecc8a8760056e52a43b3d36fa6f5544ec", func := "loop.example/g03312/laws.FnExactGatherPieces", spec := "fnExactGatherPieces", apart := false }
def FnExactGatherPiecesSaid : Prop := fnExactGatherPiecesRow.holds Try.pinned (OpenSpec.ofChange fnExactGatherPiecesSpec)

/-- ITS FALSE NEIGHBOUR: 'it returns false'. Refute it at one input. -/
def fnExactGatherPiecesWrong : ChangeSpec := { name := "fnExactGatherPieces", fn := fun _ => fun
  | [d1, d2, d3, d4] => { results := [.lit (.bool false)], args := [d1, d2, d3, d4] }
  | _ => none }
def FnExactGatherPiecesWrongFalsely : Prop := fnExactGatherPiecesRow.holds Try.pinned (OpenSpec.ofChange fnExactGatherPiecesWrong)

/-- 'laws.FnExactScatterPieces': WHATEVER THE INPUT: true; the input reads as it did. -/
def fnExactScatterPiecesSpec : ChangeSpec := { name := "fnExactScatterPieces", fn := fun _ => fun
  | [d1, d2, d3, d4, d5] => { results := [.lit (.bool true)], args := [d1, d2, d3, d4, d5] }
  | _ => none }
def fnExactScatterPiecesRow : OpenClaim := { program := "ytjeenjblenpinaa", sum := "2c105aa825bbb51a66506a2dda2c391ecc8a8760056e52a43b3d36fa6f5544ec", func := "loop.example/g03312/laws.FnExactScatterPieces", spec := "fnExactScatterPieces", apart := false }
def FnExactScatterPiecesSaid : Prop := fnExactScatterPiecesRow.holds Try.pinned (OpenSpec.ofChange fnExactScatterPiecesSpec)

/-- ITS FALSE NEIGHBOUR: 'it returns false'. Refute it at one input. -/
def fnExactScatterPiecesWrong : ChangeSpec := { name := "fnExactScatterPieces", fn := fun _ => fun
  | [d1, d2, d3, d4, d5] => { results := [.lit (.bool false)], args := [d1, d2, d3, d4, d5] }
  | _ => none }
def FnExactScatterPiecesWrongFalsely : Prop := fnExactScatterPiecesRow.holds Try.pinned (OpenSpec.ofChange fnExactScatterPiecesWrong)

/-- 'laws.FnExactPiecesApart': WHATEVER THE INPUT: true; the input reads as it did. -/
def fnExactPiecesApartSpec : ChangeSpec := { name := "fnExactPiecesApart", fn := fun _ => fun
  | [d1, d2, d3] => { results := [.lit (.bool true)], args := [d1, d2, d3] }
  | _ => none }
def fnExactPiecesApartRow : OpenClaim := { program := "ytjeenjblenpinaa", sum := "2c105aa825bbb51a66506a2dda2c391ecc8a8760056e52a43b3d36fa6f5544ec", func := "loop.example/g03312/laws.FnExactPiecesApart", spec := "fnExactPiecesApart", apart := false }
def FnExactPiecesApartSaid : Prop := fnExactPiecesApartRow.holds Try.pinned (OpenSpec.ofChange fnExactPiecesApartSpec)

/-- ITS FALSE NEIGHBOUR: 'it returns false'. Refute it at one input. -/
def fnExactPiecesApartWrong : ChangeSpec := { name := "fnExactPiecesApart", fn := fun _ => fun
  | [d1, d2, d3] => { results := [.lit (.bool false)], args := [d1, d2, d3] }
  | _ => none }
def FnExactPiecesApartWrongFalsely : Prop := fnExactPiecesApartRow.holds Try.pinned (OpenSpec.ofChange fnExactPiecesApartWrong)

/-- 'laws.FnExactRingTake': WHATEVER THE INPUT: true; the input reads as it did. -/
def fnExactRingTakeSpec : ChangeSpec := { name := "fnExactRingTake", fn := fun _ => fun
  | [d1, d2, d3, d4] => { results := [.lit (.bool true)], args := [d1, d2, d3, d4] }
  | _ => none }
def fnExactRingTakeRow : OpenClaim := { program := "ytjeenjblenpinaa", sum := "2c105aa825bbb51a66506a2dda2c391ecc8a8760056e52a43b3d36fa6f5544ec", func := "loop.example/g03312/laws.FnExactRingTake", spec := "fnExactRingTake", apart := false }
def FnExactRingTakeSaid : Prop := fnExactRingTakeRow.holds Try.pinned (OpenSpec.ofChange fnExactRingTakeSpec)

/-- ITS FALSE NEIGHBOUR: 'it returns false'. Refute it at one input. -/
def fnExactRingTakeWrong : ChangeSpec := { name := "fnExactRingTake", fn := fun _ => fun
  | [d1, d2, d3, d4] => { results := [.lit (.bool false)], args := [d1, d2, d3, d4] }
  | _ => none }
def FnExactRingTakeWrongFalsely : Prop := fnExactRingTakeRow.holds Try.pinned (OpenSpec.ofChange fnExactRingTakeWrong)

/-- 'laws.FnExactRingPut': WHATEVER THE INPUT: true; the input reads as it did. -/
def fnExactRingPutSpec : ChangeSpec := { name := "fnExactRingPut", fn := fun _ => fun
  | [d1, d2, d3, d4, d5] => { results := [.lit (.bool true)], args := [d1, d2, d3, d4, d5] }
  | _ => none }
def fnExactRingPutRow : OpenClaim := { program := "ytjeenjblenpinaa", sum := "2c105aa825bbb51a66506a2dda2c391ecc8a8760056e52a43b3d36fa6f5544ec", func := "loop.example/g03312/laws.FnExactRingPut", spec := "fnExactRingPut", apart := false }
def FnExactRingPutSaid : Prop := fnExactRingPutRow.holds Try.pinned (OpenSpec.ofChange fnExactRingPutSpec)

/-- ITS FALSE NEIGHBOUR: 'it returns false'. Refute it at one input. -/
def fnExactRingPutWrong : ChangeSpec := { name := "fnExactRingPut", fn := fun _ => fun
  | [d1, d2, d3, d4, d5] => { results := [.lit (.bool false)], args := [d1, d2, d3, d4, d5] }
  | _ => none }
def FnExactRingPutWrongFalsely : Prop := fnExactRingPutRow.holds Try.pinned (OpenSpec.ofChange fnExactRingPutWrong)

/-- 'laws.FnExactRingPutAll': WHATEVER THE INPUT: true; the input reads as it did. -/
def fnExactRingPutAllSpec : ChangeSpec := { name := "fnExactRingPutAll", fn := fun _ => fun
  | [d1, d2, d3, d4, d5] => { results := [.lit (.bool true)], args := [d1, d2, d3, d4, d5] }
  | _ => none }
def fnExactRingPutAllRow : OpenClaim := { program := "ytjeenjblenpinaa", sum := "2c105aa825bbb51a66506a2dda2c391ecc8a8760056e52a43b3d36fa6f5544ec", func := "loop.example/g03312/laws.FnExactRingPutAll", spec := "fnExactRingPutAll", apart := false }
def FnExactRingPutAllSaid : Prop := fnExactRingPutAllRow.holds Try.pinned (OpenSpec.ofChange fnExactRingPutAllSpec)

/-- ITS FALSE NEIGHBOUR: 'it returns false'. Refute it at one input. -/
def fnExactRingPutAllWrong : ChangeSpec := { name := "fnExactRingPutAll", fn := fun _ => fun
  | [d1, d2, d3, d4, d5] => { results := [.lit (.bool false)], args := [d1, d2, d3, d4, d5] }
  | _ => none }
def FnExactRingPutAllWrongFalsely : Prop := fnExactRingPutAllRow.holds Try.pinned (OpenSpec.ofChange fnExactRingPutAllWrong)

/-- 'laws.FnUnmapped': WHATEVER THE INPUT: true; the input reads as it did. -/
def fnUnmappedSpec : ChangeSpec := { name := "fnUnmapped", fn := fun _ => fun
  | [d] => { results := [.lit (.bool true)], args := [d] }
  | _ => none }
def fnUnmappedRow : OpenClaim := { program := "ytjeenjblenpinaa", sum := "2c105aa825bbb51a66506a2dda2c391ecc8a8760056e52a43b3d36fa6f5544ec", func := "loop.example/g03312/laws.FnUnmapped", spec := "fnUnmapped", apart := false }
def FnUnmappedSaid : Prop := fnUnmappedRow.holds Try.pinned (OpenSpec.ofChange fnUnmappedSpec)

/-- ITS FALSE NEIGHBOUR: 'it returns false'. Refute it at one input. -/
def fnUnmappedWrong : ChangeSpec := { name := "fnUnmapped", fn := fun _ => fun
  | [d] => { results := [.lit (.bool false)], args := [d] }
  | _ => none }
def FnUnmappedWrongFalsely : Prop := fnUnmappedRow.holds Try.pinned (OpenSpec.ofChange fnUnmappedWrong)

/-- 'laws.FnOnlyMapped': WHATEVER THE INPUT: true; the input reads as it did. -/
def fnOnlyMappedSpec : ChangeSpec := { name := "fnOnlyMapped", fn := fun _ => fun
  | [d] => { results := [.lit (.bool true)], args := [d] }
  | _ => none }
def fnOnlyMappedRow : OpenClaim := { program := "ytjeenjblenpinaa", sum := "2c105aa825bbb51a66506a2dda2c391ecc8a8760056e52a43b3d36fa6f5544ec", func := "loop.example/g03312/laws.FnOnlyMapped", spec := "fnOnlyMapped", apart := false }
def FnOnlyMappedSaid : Prop := fnOnlyMappedRow.holds Try.pinned (OpenSpec.ofChange fnOnlyMappedSpec)

/-- ITS FALSE NEIGHBOUR: 'it returns false'. Refute it at one input. -/
def fnOnlyMappedWrong : ChangeSpec := { name := "fnOnlyMapped", fn := fun _ => fun
  | [d] => { results := [.lit (.bool false)], args := [d] }
  | _ => none }
def FnOnlyMappedWrongFalsely : Prop := fnOnlyMappedRow.holds Try.pinned (OpenSpec.ofChange fnOnlyMappedWrong)

/-- 'laws.FnDmaRound': WHATEVER THE INPUT: true; the input reads as it did. -/
def fnDmaRoundSpec : ChangeSpec := { name := "fnDmaRound", fn := fun _ => fun
  | [d] => { results := [.lit (.bool true)], args := [d] }
  | _ => none }
def fnDmaRoundRow : OpenClaim := { program := "ytjeenjblenpinaa", sum := "2c105aa825bbb51a66506a2dda2c391ecc8a8760056e52a43b3d36fa6f5544ec", func := "loop.example/g03312/laws.FnDmaRound", spec := "fnDmaRound", apart := false }
def FnDmaRoundSaid : Prop := fnDmaRoundRow.holds Try.pinned (OpenSpec.ofChange fnDmaRoundSpec)

/-- ITS FALSE NEIGHBOUR: 'it returns false'. Refute it at one input. -/
def fnDmaRoundWrong : ChangeSpec := { name := "fnDmaRound", fn := fun _ => fun
  | [d] => { results := [.lit (.bool false)], args := [d] }
  | _ => none }
def FnDmaRoundWrongFalsely : Prop := fnDmaRoundRow.holds Try.pinned (OpenSpec.ofChange fnDmaRoundWrong)

/- THE SECOND FORM. 'bulk': how many values and letters a reading holds, each counted each time it is reached (what is shared counts as often as it is met; a slice's spare places count too). A statement '..UptoSaid' is the law's where the arguments, and the package variables that the reading takes, are together of bulk at most 1048576: NARROWER than '..Said'. Prove '..Said' where nothing that the law and all that it calls make is longer than what came in: it says more and counts as full. Else prove '..UptoSaid'. A law counts once. -/
mutual
def uptoBulk {H : Type} : DataW H → Nat
  | .lit (.string bytes) => bytes.length + 1
  | .lit _ => 1
  | .nil => 1
  | .ptr d => uptoBulk d + 1
  | .slice elems spare => uptoBulkAll elems + uptoBulkAll spare + 1
  | .agg parts => uptoBulkAll parts + 1
  | .iface _ d => uptoBulk d + 1
  | .map entries => uptoBulkEntries entries + 1
  | .held _ => 1
def uptoBulkAll {H : Type} : List (DataW H) → Nat
  | [] => 0
  | d :: r => uptoBulk d + uptoBulkAll r
def uptoBulkEntries {H : Type} : List (Lit × DataW H) → Nat
  | [] => 0
  | x :: r => uptoBulkEntry x + uptoBulkEntries r
def uptoBulkEntry {H : Type} : Lit × DataW H → Nat
  | (.string bytes, d) => bytes.length + uptoBulk d + 1
  | (_, d) => uptoBulk d + 1
 end
def uptoSmall : (H : Type) → List (DataW H) → Bool := fun _ ds => decide (uptoBulkAll ds ≤ 1048576)
def OpenSpec.upto (s : _root_.Go.ChangeSpec) : _root_.Go.OpenSpec := { _root_.Go.OpenSpec.ofChange s with cond := some uptoSmall }

/-- 'laws.FnExactDmaRead', WHERE WHAT IT READS IS OF BULK AT MOST 1048576: true; the input reads as it did. -/
def fnExactDmaReadUptoRow : OpenClaim := { program := "ytjeenjblenpinaa", sum := "2c105aa825bbb51a66506a2dda2c391ecc8a8760056e52a43b3d36fa6f5544ec", func := "loop.example/g03312/laws.FnExactDmaRead", spec := "fnExactDmaRead", apart := false, narrowed := true }
def FnExactDmaReadUptoSaid : Prop := fnExactDmaReadUptoRow.holds Try.pinned (OpenSpec.upto fnExactDmaReadSpec)

/-- 'laws.FnExactDmaWrite', WHERE WHAT IT READS IS OF BULK AT MOST 1048576: true; the input reads as it did. -/
def fnExactDmaWriteUptoRow : OpenClaim := { program := "ytjeenjblenpinaa", sum := "2c105aa825bbb51a66506a2dda2c391ecc8a8760056e52a43b3d36fa6f5544ec", func := "loop.example/g03312/laws.FnExactDmaWrite", spec := "fnExactDmaWrite", apart := false, narrowed := true }
def FnExactDmaWriteUptoSaid : Prop := fnExactDmaWriteUptoRow.holds Try.pinned (OpenSpec.upto fnExactDmaWriteSpec)

/-- 'laws.FnExactHostWrite', WHERE WHAT IT READS IS OF BULK AT MOST 1048576: true; the input reads as it did. -/
def fnExactHostWriteUptoRow : OpenClaim := { program := "ytjeenjblenpinaa", sum := "2c105aa825bbb51a66506a2dda2c391ecc8a8760056e52a43b3d36fa6f5544ec", func := "loop.example/g03312/laws.FnExactHostWrite", spec := "fnExactHostWrite", apart := false, narrowed := true }
def FnExactHostWriteUptoSaid : Prop := fnExactHostWriteUptoRow.holds Try.pinned (OpenSpec.upto fnExactHostWriteSpec)

/-- 'laws.FnExactGatherPieces', WHERE WHAT IT READS IS OF BULK AT MOST 1048576: true; the input reads as it did. -/
def fnExactGatherPiecesUptoRow : OpenClaim := { program := "ytjeenjblenpinaa", sum := "2c105aa825bbb51a66506a2dda2c391ecc8a8760056e52a43b3d36fa6f5544ec", func := "loop.example/g03312/laws.FnExactGatherPieces", spec := "fnExactGatherPieces", apart := false, narrowed := true }
def FnExactGatherPiecesUptoSaid : Prop := fnExactGatherPiecesUptoRow.holds Try.pinned (OpenSpec.upto fnExactGatherPiecesSpec)

/-- 'laws.FnExactScatterPieces', WHERE WHAT IT READS IS OF BULK AT MOST 1048576: true; the input reads as it did. -/
def fnExactScatterPiecesUptoRow : OpenClaim := { program := "ytjeenjblenpinaa", sum := "2c105aa825bbb51a66506a2dda2c391ecc8a8760056e52a43b3d36fa6f5544ec", func := "loop.example/g03312/laws.FnExactScatterPieces", spec := "fnExactScatterPieces", apart := false, narrowed := true }
def FnExactScatterPiecesUptoSaid : Prop := fnExactScatterPiecesUptoRow.holds Try.pinned (OpenSpec.upto fnExactScatterPiecesSpec)

/-- 'laws.FnExactPiecesApart', WHERE WHAT IT READS IS OF BULK AT MOST 1048576: true; the input reads as it did. -/
def fnExactPiecesApartUptoRow : OpenClaim := { program := "ytjeenjblenpinaa", sum := "2c105aa825bbb51a66506a2dda2c391ecc8a8760056e52a43b3d36fa6f5544ec", func := "loop.example/g03312/laws.FnExactPiecesApart", spec := "fnExactPiecesApart", apart := false, narrowed := true }
def FnExactPiecesApartUptoSaid : Prop := fnExactPiecesApartUptoRow.holds Try.pinned (OpenSpec.upto fnExactPiecesApartSpec)

/-- 'laws.FnExactRingTake', WHERE WHAT IT READS IS OF BULK AT MOST 1048576: true; the input reads as it did. -/
def fnExactRingTakeUptoRow : OpenClaim := { program := "ytjeenjblenpinaa", sum := "2c105aa825bbb51a66506a2dda2c391ecc8a8760056e52a43b3d36fa6f5544ec", func := "loop.example/g03312/laws.FnExactRingTake", spec := "fnExactRingTake", apart := false, narrowed := true }
def FnExactRingTakeUptoSaid : Prop := fnExactRingTakeUptoRow.holds Try.pinned (OpenSpec.upto fnExactRingTakeSpec)

/-- 'laws.FnExactRingPut', WHERE WHAT IT READS IS OF BULK AT MOST 1048576: true; the input reads as it did. -/
def fnExactRingPutUptoRow : OpenClaim := { program := "ytjeenjblenpinaa", sum := "2c105aa825bbb51a66506a2dda2c391ecc8a8760056e52a43b3d36fa6f5544ec", func := "loop.example/g03312/laws.FnExactRingPut", spec := "fnExactRingPut", apart := false, narrowed := true }
def FnExactRingPutUptoSaid : Prop := fnExactRingPutUptoRow.holds Try.pinned (OpenSpec.upto fnExactRingPutSpec)

/-- 'laws.FnExactRingPutAll', WHERE WHAT IT READS IS OF BULK AT MOST 1048576: true; the input reads as it did. -/
def fnExactRingPutAllUptoRow : OpenClaim := { program := "ytjeenjblenpinaa", sum := "2c105aa825bbb51a66506a2dda2c391ecc8a8760056e52a43b3d36fa6f5544ec", func := "loop.example/g03312/laws.FnExactRingPutAll", spec := "fnExactRingPutAll", apart := false, narrowed := true }
def FnExactRingPutAllUptoSaid : Prop := fnExactRingPutAllUptoRow.holds Try.pinned (OpenSpec.upto fnExactRingPutAllSpec)

/-- 'laws.FnUnmapped', WHERE WHAT IT READS IS OF BULK AT MOST 1048576: true; the input reads as it did. -/
def fnUnmappedUptoRow : OpenClaim := { program := "ytjeenjblenpinaa", sum := "2c105aa825bbb51a66506a2dda2c391ecc8a8760056e52a43b3d36fa6f5544ec", func := "loop.example/g03312/laws.FnUnmapped", spec := "fnUnmapped", apart := false, narrowed := true }
def FnUnmappedUptoSaid : Prop := fnUnmappedUptoRow.holds Try.pinned (OpenSpec.upto fnUnmappedSpec)

/-- 'laws.FnOnlyMapped', WHERE WHAT IT READS IS OF BULK AT MOST 1048576: true; the input reads as it did. -/
def fnOnlyMappedUptoRow : OpenClaim := { program := "ytjeenjblenpinaa", sum := "2c105aa825bbb51a66506a2dda2c391ecc8a8760056e52a43b3d36fa6f5544ec", func := "loop.example/g03312/laws.FnOnlyMapped", spec := "fnOnlyMapped", apart := false, narrowed := true }
def FnOnlyMappedUptoSaid : Prop := fnOnlyMappedUptoRow.holds Try.pinned (OpenSpec.upto fnOnlyMappedSpec)

/-- 'laws.FnDmaRound', WHERE WHAT IT READS IS OF BULK AT MOST 1048576: true; the input reads as it did. -/
def fnDmaRoundUptoRow : OpenClaim := { program := "ytjeenjblenpinaa", sum := "2c105aa825bbb51a66506a2dda2c391ecc8a8760056e52a43b3d36fa6f5544ec", func := "loop.example/g03312/laws.FnDmaRound", spec := "fnDmaRound", apart := false, narrowed := true }
def FnDmaRoundUptoSaid : Prop := fnDmaRoundUptoRow.holds Try.pinned (OpenSpec.upto fnDmaRoundSpec)

end Rows
end Go.Proofs.Ytjeenjblenpinaa
