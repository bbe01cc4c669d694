/-
  No cell of these rows narrows 'for every input' (looked for: loops, veiled, ifaces, maps, wideKeys, modest, calm, conditions, laid).
  DERIVED. THE GIVEN ROWS OF THIS SEAT. 12 by the template 'for every input the law returns true; each argument reads behind the call as it read before'; 0 by the template 'total and deterministic' (their statements: YteajedcoidljhaaTotals.lean).
  GIVEN WITH THE SEED: the statements are not yours to turn. If you find one false, say at which input.
  Laid BY PROGRAM, IN A SANDBOX (cutbox-rows.mjs): the forced cells as the released guide's own fill.sh prints them over the translation bd6045fc7b79aa6e… (all of the seat's roots in one cut). By AI agents, Wed Nov 11 2026. No macro, syntax, notation, axiom, sorry.
-/
import Derived.Test.YteajedcoidljhaaChecked
import GoSem.Claim
import GoSem.ClaimJoined
import GoSem.ClaimMapViews
import Derived.JoinedTies
import Derived.KernelRfl
namespace Go.Proofs.Yteajedcoidljhaa
/- THE CELL 'sum', in the pinned program and in every row, IS THE sha256 OF THE DUMP (.gsa) THAT YteajedcoidljhaaProg.lean LOADS. Nothing in Lean hashes anything: it is a label: what it is worth is what the hold of that sum in a sandbox is worth. -/
noncomputable def Try.pinned : Pinned := { name := "yteajedcoidljhaa", sum := "bd6045fc7b79aa6efa9005e65d7abd8fb7debe245ec55edea90ffa4c79092942", checked := Try.checked }
namespace Rows
def none {H : Type} : Left H := { results := [], args := [] }

/-- 'laws.FnExactMemoryOk': WHATEVER THE INPUT: true; the input reads as it did. -/
def fnExactMemoryOkSpec : ChangeSpec := { name := "fnExactMemoryOk", fn := fun _ => fun
  | [d] => { results := [.lit (.bool true)], args := [d] }
  | _ => none }
def fnExactMemoryOkRow : OpenClaim := { program := "yteajedcoidljhaa", sum := "bd6045fc7b79aa6efa9005e65d7abd8fb7debe245ec55edea90ffa4c79092942", func := "loop.example/g03312/laws.FnExactMemoryOk", spec := "fnExactMemoryOk", apart := false }
def FnExactMemoryOkSaid : Prop := fnExactMemoryOkRow.holds Try.pinned (OpenSpec.ofChange fnExactMemoryOkSpec)

/-- ITS FALSE NEIGHBOUR: 'it returns false'. Refute it at one input. -/
def fnExactMemoryOkWrong : ChangeSpec := { name := "fnExactMemoryOk", fn := fun _ => fun
  | [d] => { results := [.lit (.bool false)], args := [d] }
  | _ => none }
def FnExactMemoryOkWrongFalsely : Prop := fnExactMemoryOkRow.holds Try.pinned (OpenSpec.ofChange fnExactMemoryOkWrong)

/-- 'laws.FnExactNewMemory': WHATEVER THE INPUT: true; the input reads as it did. -/
def fnExactNewMemorySpec : ChangeSpec := { name := "fnExactNewMemory", fn := fun _ => fun
  | [d] => { results := [.lit (.bool true)], args := [d] }
  | _ => none }
def fnExactNewMemoryRow : OpenClaim := { program := "yteajedcoidljhaa", sum := "bd6045fc7b79aa6efa9005e65d7abd8fb7debe245ec55edea90ffa4c79092942", func := "loop.example/g03312/laws.FnExactNewMemory", spec := "fnExactNewMemory", apart := false }
def FnExactNewMemorySaid : Prop := fnExactNewMemoryRow.holds Try.pinned (OpenSpec.ofChange fnExactNewMemorySpec)

/-- ITS FALSE NEIGHBOUR: 'it returns false'. Refute it at one input. -/
def fnExactNewMemoryWrong : ChangeSpec := { name := "fnExactNewMemory", fn := fun _ => fun
  | [d] => { results := [.lit (.bool false)], args := [d] }
  | _ => none }
def FnExactNewMemoryWrongFalsely : Prop := fnExactNewMemoryRow.holds Try.pinned (OpenSpec.ofChange fnExactNewMemoryWrong)

/-- 'laws.FnExactReadMemory': WHATEVER THE INPUT: true; the input reads as it did. -/
def fnExactReadMemorySpec : ChangeSpec := { name := "fnExactReadMemory", fn := fun _ => fun
  | [d1, d2, d3] => { results := [.lit (.bool true)], args := [d1, d2, d3] }
  | _ => none }
def fnExactReadMemoryRow : OpenClaim := { program := "yteajedcoidljhaa", sum := "bd6045fc7b79aa6efa9005e65d7abd8fb7debe245ec55edea90ffa4c79092942", func := "loop.example/g03312/laws.FnExactReadMemory", spec := "fnExactReadMemory", apart := false }
def FnExactReadMemorySaid : Prop := fnExactReadMemoryRow.holds Try.pinned (OpenSpec.ofChange fnExactReadMemorySpec)

/-- ITS FALSE NEIGHBOUR: 'it returns false'. Refute it at one input. -/
def fnExactReadMemoryWrong : ChangeSpec := { name := "fnExactReadMemory", fn := fun _ => fun
  | [d1, d2, d3] => { results := [.lit (.bool false)], args := [d1, d2, d3] }
  | _ => none }
def FnExactReadMemoryWrongFalsely : Prop := fnExactReadMemoryRow.holds Try.pinned (OpenSpec.ofChange fnExactReadMemoryWrong)

/-- 'laws.FnExactWriteMemory': WHATEVER THE INPUT: true; the input reads as it did. -/
def fnExactWriteMemorySpec : ChangeSpec := { name := "fnExactWriteMemory", fn := fun _ => fun
  | [d1, d2, d3] => { results := [.lit (.bool true)], args := [d1, d2, d3] }
  | _ => none }
def fnExactWriteMemoryRow : OpenClaim := { program := "yteajedcoidljhaa", sum := "bd6045fc7b79aa6efa9005e65d7abd8fb7debe245ec55edea90ffa4c79092942", func := "loop.example/g03312/laws.FnExactWriteMemory", spec := "fnExactWriteMemory", apart := false }
def FnExactWriteMemorySaid : Prop := fnExactWriteMemoryRow.holds Try.pinned (OpenSpec.ofChange fnExactWriteMemorySpec)

/-- ITS FALSE NEIGHBOUR: 'it returns false'. Refute it at one input. -/
def fnExactWriteMemoryWrong : ChangeSpec := { name := "fnExactWriteMemory", fn := fun _ => fun
  | [d1, d2, d3] => { results := [.lit (.bool false)], args := [d1, d2, d3] }
  | _ => none }
def FnExactWriteMemoryWrongFalsely : Prop := fnExactWriteMemoryRow.holds Try.pinned (OpenSpec.ofChange fnExactWriteMemoryWrong)

/-- 'laws.FnExactChangedPages': WHATEVER THE INPUT: true; the input reads as it did. -/
def fnExactChangedPagesSpec : ChangeSpec := { name := "fnExactChangedPages", fn := fun _ => fun
  | [d1, d2] => { results := [.lit (.bool true)], args := [d1, d2] }
  | _ => none }
def fnExactChangedPagesRow : OpenClaim := { program := "yteajedcoidljhaa", sum := "bd6045fc7b79aa6efa9005e65d7abd8fb7debe245ec55edea90ffa4c79092942", func := "loop.example/g03312/laws.FnExactChangedPages", spec := "fnExactChangedPages", apart := false }
def FnExactChangedPagesSaid : Prop := fnExactChangedPagesRow.holds Try.pinned (OpenSpec.ofChange fnExactChangedPagesSpec)

/-- ITS FALSE NEIGHBOUR: 'it returns false'. Refute it at one input. -/
def fnExactChangedPagesWrong : ChangeSpec := { name := "fnExactChangedPages", fn := fun _ => fun
  | [d1, d2] => { results := [.lit (.bool false)], args := [d1, d2] }
  | _ => none }
def FnExactChangedPagesWrongFalsely : Prop := fnExactChangedPagesRow.holds Try.pinned (OpenSpec.ofChange fnExactChangedPagesWrong)

/-- 'laws.FnExactPiecesOk': WHATEVER THE INPUT: true; the input reads as it did. -/
def fnExactPiecesOkSpec : ChangeSpec := { name := "fnExactPiecesOk", fn := fun _ => fun
  | [d] => { results := [.lit (.bool true)], args := [d] }
  | _ => none }
def fnExactPiecesOkRow : OpenClaim := { program := "yteajedcoidljhaa", sum := "bd6045fc7b79aa6efa9005e65d7abd8fb7debe245ec55edea90ffa4c79092942", func := "loop.example/g03312/laws.FnExactPiecesOk", spec := "fnExactPiecesOk", apart := false }
def FnExactPiecesOkSaid : Prop := fnExactPiecesOkRow.holds Try.pinned (OpenSpec.ofChange fnExactPiecesOkSpec)

/-- ITS FALSE NEIGHBOUR: 'it returns false'. Refute it at one input. -/
def fnExactPiecesOkWrong : ChangeSpec := { name := "fnExactPiecesOk", fn := fun _ => fun
  | [d] => { results := [.lit (.bool false)], args := [d] }
  | _ => none }
def FnExactPiecesOkWrongFalsely : Prop := fnExactPiecesOkRow.holds Try.pinned (OpenSpec.ofChange fnExactPiecesOkWrong)

/-- 'laws.FnExactCutPieces': WHATEVER THE INPUT: true; the input reads as it did. -/
def fnExactCutPiecesSpec : ChangeSpec := { name := "fnExactCutPieces", fn := fun _ => fun
  | [d1, d2, d3] => { results := [.lit (.bool true)], args := [d1, d2, d3] }
  | _ => none }
def fnExactCutPiecesRow : OpenClaim := { program := "yteajedcoidljhaa", sum := "bd6045fc7b79aa6efa9005e65d7abd8fb7debe245ec55edea90ffa4c79092942", func := "loop.example/g03312/laws.FnExactCutPieces", spec := "fnExactCutPieces", apart := false }
def FnExactCutPiecesSaid : Prop := fnExactCutPiecesRow.holds Try.pinned (OpenSpec.ofChange fnExactCutPiecesSpec)

/-- ITS FALSE NEIGHBOUR: 'it returns false'. Refute it at one input. -/
def fnExactCutPiecesWrong : ChangeSpec := { name := "fnExactCutPieces", fn := fun _ => fun
  | [d1, d2, d3] => { results := [.lit (.bool false)], args := [d1, d2, d3] }
  | _ => none }
def FnExactCutPiecesWrongFalsely : Prop := fnExactCutPiecesRow.holds Try.pinned (OpenSpec.ofChange fnExactCutPiecesWrong)

/-- 'laws.FnExactPiecesLength': WHATEVER THE INPUT: true; the input reads as it did. -/
def fnExactPiecesLengthSpec : ChangeSpec := { name := "fnExactPiecesLength", fn := fun _ => fun
  | [d] => { results := [.lit (.bool true)], args := [d] }
  | _ => none }
def fnExactPiecesLengthRow : OpenClaim := { program := "yteajedcoidljhaa", sum := "bd6045fc7b79aa6efa9005e65d7abd8fb7debe245ec55edea90ffa4c79092942", func := "loop.example/g03312/laws.FnExactPiecesLength", spec := "fnExactPiecesLength", apart := false }
def FnExactPiecesLengthSaid : Prop := fnExactPiecesLengthRow.holds Try.pinned (OpenSpec.ofChange fnExactPiecesLengthSpec)

/-- ITS FALSE NEIGHBOUR: 'it returns false'. Refute it at one input. -/
def fnExactPiecesLengthWrong : ChangeSpec := { name := "fnExactPiecesLength", fn := fun _ => fun
  | [d] => { results := [.lit (.bool false)], args := [d] }
  | _ => none }
def FnExactPiecesLengthWrongFalsely : Prop := fnExactPiecesLengthRow.holds Try.pinned (OpenSpec.ofChange fnExactPiecesLengthWrong)

/-- 'laws.FnCutPieces': WHATEVER THE INPUT: true; the input reads as it did. -/
def fnCutPiecesSpec : ChangeSpec := { name := "fnCutPieces", fn := fun _ => fun
  | [d] => { results := [.lit (.bool true)], args := [d] }
  | _ => none }
def fnCutPiecesRow : OpenClaim := { program := "yteajedcoidljhaa", sum := "bd6045fc7b79aa6efa9005e65d7abd8fb7debe245ec55edea90ffa4c79092942", func := "loop.example/g03312/laws.FnCutPieces", spec := "fnCutPieces", apart := false }
def FnCutPiecesSaid : Prop := fnCutPiecesRow.holds Try.pinned (OpenSpec.ofChange fnCutPiecesSpec)

/-- ITS FALSE NEIGHBOUR: 'it returns false'. Refute it at one input. -/
def fnCutPiecesWrong : ChangeSpec := { name := "fnCutPieces", fn := fun _ => fun
  | [d] => { results := [.lit (.bool false)], args := [d] }
  | _ => none }
def FnCutPiecesWrongFalsely : Prop := fnCutPiecesRow.holds Try.pinned (OpenSpec.ofChange fnCutPiecesWrong)

/-- 'laws.FnExactDecodeDesc': WHATEVER THE INPUT: true; the input reads as it did. -/
def fnExactDecodeDescSpec : ChangeSpec := { name := "fnExactDecodeDesc", fn := fun _ => fun
  | [d] => { results := [.lit (.bool true)], args := [d] }
  | _ => none }
def fnExactDecodeDescRow : OpenClaim := { program := "yteajedcoidljhaa", sum := "bd6045fc7b79aa6efa9005e65d7abd8fb7debe245ec55edea90ffa4c79092942", func := "loop.example/g03312/laws.FnExactDecodeDesc", spec := "fnExactDecodeDesc", apart := false }
def FnExactDecodeDescSaid : Prop := fnExactDecodeDescRow.holds Try.pinned (OpenSpec.ofChange fnExactDecodeDescSpec)

/-- ITS FALSE NEIGHBOUR: 'it returns false'. Refute it at one input. -/
def fnExactDecodeDescWrong : ChangeSpec := { name := "fnExactDecodeDesc", fn := fun _ => fun
  | [d] => { results := [.lit (.bool false)], args := [d] }
  | _ => none }
def FnExactDecodeDescWrongFalsely : Prop := fnExactDecodeDescRow.holds Try.pinned (OpenSpec.ofChange fnExactDecodeDescWrong)

/-- 'laws.FnExactDescribePacket': WHATEVER THE INPUT: true; the input reads as it did. -/
def fnExactDescribePacketSpec : ChangeSpec := { name := "fnExactDescribePacket", fn := fun _ => fun
  | [d1, d2, d3] => { results := [.lit (.bool true)], args := [d1, d2, d3] }
  | _ => none }
def fnExactDescribePacketRow : OpenClaim := { program := "yteajedcoidljhaa", sum := "bd6045fc7b79aa6efa9005e65d7abd8fb7debe245ec55edea90ffa4c79092942", func := "loop.example/g03312/laws.FnExactDescribePacket", spec := "fnExactDescribePacket", apart := false }
def FnExactDescribePacketSaid : Prop := fnExactDescribePacketRow.holds Try.pinned (OpenSpec.ofChange fnExactDescribePacketSpec)

/-- ITS FALSE NEIGHBOUR: 'it returns false'. Refute it at one input. -/
def fnExactDescribePacketWrong : ChangeSpec := { name := "fnExactDescribePacket", fn := fun _ => fun
  | [d1, d2, d3] => { results := [.lit (.bool false)], args := [d1, d2, d3] }
  | _ => none }
def FnExactDescribePacketWrongFalsely : Prop := fnExactDescribePacketRow.holds Try.pinned (OpenSpec.ofChange fnExactDescribePacketWrong)

/-- 'laws.FnExactPiecesOfDescs': WHATEVER THE INPUT: true; the input reads as it did. -/
def fnExactPiecesOfDescsSpec : ChangeSpec := { name := "fnExactPiecesOfDescs", fn := fun _ => fun
  | [d] => { results := [.lit (.bool true)], args := [d] }
  | _ => none }
def fnExactPiecesOfDescsRow : OpenClaim := { program := "yteajedcoidljhaa", sum := "bd6045fc7b79aa6efa9005e65d7abd8fb7debe245ec55edea90ffa4c79092942", func := "loop.example/g03312/laws.FnExactPiecesOfDescs", spec := "fnExactPiecesOfDescs", apart := false }
def FnExactPiecesOfDescsSaid : Prop := fnExactPiecesOfDescsRow.holds Try.pinned (OpenSpec.ofChange fnExactPiecesOfDescsSpec)

/-- ITS FALSE NEIGHBOUR: 'it returns false'. Refute it at one input. -/
def fnExactPiecesOfDescsWrong : ChangeSpec := { name := "fnExactPiecesOfDescs", fn := fun _ => fun
  | [d] => { results := [.lit (.bool false)], args := [d] }
  | _ => none }
def FnExactPiecesOfDescsWrongFalsely : Prop := fnExactPiecesOfDescsRow.holds Try.pinned (OpenSpec.ofChange fnExactPiecesOfDescsWrong)

/- THE SECOND FORM. 'bulk': how many values and letters a reading holds, each counted each time it is reached (what is shared counts as often as it is met; a slice's spare places count too). A statement '..UptoSaid' is the law's where the arguments, and the package variables that the reading takes, are together of bulk at most 1048576: NARROWER than '..Said'. Prove '..Said' where nothing that the law and all that it calls make is longer than what came in: it says more and counts as full. Else prove '..UptoSaid'. A law counts once. -/
mutual
def uptoBulk {H : Type} : DataW H → Nat
  | .lit (.string bytes) => bytes.length + 1
  | .lit _ => 1
  | .nil => 1
  | .ptr d => uptoBulk d + 1
  | .slice elems spare => uptoBulkAll elems + uptoBulkAll spare + 1
  | .agg parts => uptoBulkAll parts + 1
  | .iface _ d => uptoBulk d + 1
  | .map entries => uptoBulkEntries entries + 1
  | .held _ => 1
def uptoBulkAll {H : Type} : List (DataW H) → Nat
  | [] => 0
  | d :: r => uptoBulk d + uptoBulkAll r
def uptoBulkEntries {H : Type} : List (Lit × DataW H) → Nat
  | [] => 0
  | x :: r => uptoBulkEntry x + uptoBulkEntries r
def uptoBulkEntry {H : Type} : Lit × DataW H → Nat
  | (.string bytes, d) => bytes.length + uptoBulk d + 1
  | (_, d) => uptoBulk d + 1
 end
def uptoSmall : (H : Type) → List (DataW H) → Bool := fun _ ds => decide (uptoBulkAll ds ≤ 1048576)
def OpenSpec.upto (s : _root_.Go.ChangeSpec) : _root_.Go.OpenSpec := { _root_.Go.OpenSpec.ofChange s with cond := some uptoSmall }

/-- 'laws.FnExactMemoryOk', WHERE WHAT IT READS IS OF BULK AT MOST 1048576: true; the input reads as it did. -/
def fnExactMemoryOkUptoRow : OpenClaim := { program := "yteajedcoidljhaa", sum := "bd6045fc7b79aa6efa9005e65d7abd8fb7debe245ec55edea90ffa4c79092942", func := "loop.example/g03312/laws.FnExactMemoryOk", spec := "fnExactMemoryOk", apart := false, narrowed := true }
def FnExactMemoryOkUptoSaid : Prop := fnExactMemoryOkUptoRow.holds Try.pinned (OpenSpec.upto fnExactMemoryOkSpec)

/-- 'laws.FnExactNewMemory', WHERE WHAT IT READS IS OF BULK AT MOST 1048576: true; the input reads as it did. -/
def fnExactNewMemoryUptoRow : OpenClaim := { program := "yteajedcoidljhaa", sum := "bd6045fc7b79aa6efa9005e65d7abd8fb7debe245ec55edea90ffa4c79092942", func := "loop.example/g03312/laws.FnExactNewMemory", spec := "fnExactNewMemory", apart := false, narrowed := true }
def FnExactNewMemoryUptoSaid : Prop := fnExactNewMemoryUptoRow.holds Try.pinned (OpenSpec.upto fnExactNewMemorySpec)

/-- 'laws.FnExactReadMemory', WHERE WHAT IT READS IS OF BULK AT MOST 1048576: true; the input reads as it did. -/
def fnExactReadMemoryUptoRow : OpenClaim := { program := "yteajedcoidljhaa", sum := "bd6045fc7b79aa6efa9005e65d7abd8fb7debe245ec55edea90ffa4c79092942", func := "loop.example/g03312/laws.FnExactReadMemory", spec := "fnExactReadMemory", apart := false, narrowed := true }
def FnExactReadMemoryUptoSaid : Prop := fnExactReadMemoryUptoRow.holds Try.pinned (OpenSpec.upto fnExactReadMemorySpec)

/-- 'laws.FnExactWriteMemory', WHERE WHAT IT READS IS OF BULK AT MOST 1048576: true; the input reads as it did. -/
def fnExactWriteMemoryUptoRow : OpenClaim := { program := "yteajedcoidljhaa", sum := "bd6045fc7b79aa6efa9005e65d7abd8fb7debe245ec55edea90ffa4c79092942", func := "loop.example/g03312/laws.FnExactWriteMemory", spec := "fnExactWriteMemory", apart := false, narrowed := true }
def FnExactWriteMemoryUptoSaid : Prop := fnExactWriteMemoryUptoRow.holds Try.pinned (OpenSpec.upto fnExactWriteMemorySpec)

/-- 'laws.FnExactChangedPages', WHERE WHAT IT READS IS OF BULK AT MOST 1048576: true; the input reads as it did. -/
def fnExactChangedPagesUptoRow : OpenClaim := { program := "yteajedcoidljhaa", sum := "bd6045fc7b79aa6efa9005e65d7abd8fb7debe245ec55edea90ffa4c79092942", func := "loop.example/g03312/laws.FnExactChangedPages", spec := "fnExactChangedPages", apart := false, narrowed := true }
def FnExactChangedPagesUptoSaid : Prop := fnExactChangedPagesUptoRow.holds Try.pinned (OpenSpec.upto fnExactChangedPagesSpec)

/-- 'laws.FnExactPiecesOk', WHERE WHAT IT READS IS OF BULK AT MOST 1048576: true; the input reads as it did. -/
def fnExactPiecesOkUptoRow : OpenClaim := { program := "yteajedcoidljhaa", sum := "bd6045fc7b79aa6efa9005e65d7abd8fb7debe245ec55edea90ffa4c79092942", func := "loop.example/g03312/laws.FnExactPiecesOk", spec := "fnExactPiecesOk", apart := false, narrowed := true }
def FnExactPiecesOkUptoSaid : Prop := fnExactPiecesOkUptoRow.holds Try.pinned (OpenSpec.upto fnExactPiecesOkSpec)

/-- 'laws.FnExactCutPieces', WHERE WHAT IT READS IS OF BULK AT MOST 1048576: true; the input reads as it did. -/
def fnExactCutPiecesUptoRow : OpenClaim := { program := "yteajedcoidljhaa", sum := "bd6045fc7b79aa6efa9005e65d7abd8fb7debe245ec55edea90ffa4c79092942", func := "loop.example/g03312/laws.FnExactCutPieces", spec := "fnExactCutPieces", apart := false, narrowed := true }
def FnExactCutPiecesUptoSaid : Prop := fnExactCutPiecesUptoRow.holds Try.pinned (OpenSpec.upto fnExactCutPiecesSpec)

/-- 'laws.FnExactPiecesLength', WHERE WHAT IT READS IS OF BULK AT MOST 1048576: true; the input reads as it did. -/
def fnExactPiecesLengthUptoRow : OpenClaim := { program := "yteajedcoidljhaa", sum := "bd6045fc7b79aa6efa9005e65d7abd8fb7debe245ec55edea90ffa4c79092942", func := "loop.example/g03312/laws.FnExactPiecesLength", spec := "fnExactPiecesLength", apart := false, narrowed := true }
def FnExactPiecesLengthUptoSaid : Prop := fnExactPiecesLengthUptoRow.holds Try.pinned (OpenSpec.upto fnExactPiecesLengthSpec)

/-- 'laws.FnCutPieces', WHERE WHAT IT READS IS OF BULK AT MOST 1048576: true; the input reads as it did. -/
def fnCutPiecesUptoRow : OpenClaim := { program := "yteajedcoidljhaa", sum := "bd6045fc7b79aa6efa9005e65d7abd8fb7debe245ec55edea90ffa4c79092942", func := "loop.example/g03312/laws.FnCutPieces", spec := "fnCutPieces", apart := false, narrowed := true }
def FnCutPiecesUptoSaid : Prop := fnCutPiecesUptoRow.holds Try.pinned (OpenSpec.upto fnCutPiecesSpec)

/-- 'laws.FnExactDecodeDesc', WHERE WHAT IT READS IS OF BULK AT MOST 1048576: true; the input reads as it did. -/
def fnExactDecodeDescUptoRow : OpenClaim := { program := "yteajedcoidljhaa", sum := "bd6045fc7b79aa6efa9005e65d7abd8fb7debe245ec55edea90ffa4c79092942", func := "loop.example/g03312/laws.FnExactDecodeDesc", spec := "fnExactDecodeDesc", apart := false, narrowed := true }
def FnExactDecodeDescUptoSaid : Prop := fnExactDecodeDescUptoRow.holds Try.pinned (OpenSpec.upto fnExactDecodeDescSpec)

/-- 'laws.FnExactDescribePacket', WHERE WHAT IT READS IS OF BULK AT MOST 1048576: true; the input reads as it did. -/
def fnExactDescribePacketUptoRow : OpenClaim := { program := "yteajedcoidljhaa", sum := "bd6045fc7b79aa6efa9005e65d7abd8fb7debe245ec55edea90ffa4c79092942", func := "loop.example/g03312/laws.FnExactDescribePacket", spec := "fnExactDescribePacket", apart := false, narrowed := true }
def FnExactDescribePacketUptoSaid : Prop := fnExactDescribePacketUptoRow.holds Try.pinned (OpenSpec.upto fnExactDescribePacketSpec)

/-- 'laws.FnExactPiecesOfDescs', WHERE WHAT IT READS IS OF BULK AT MOST 1048576: true; the input reads as it did. -/
def fnExactPiecesOfDescsUptoRow : OpenClaim := { program := "yteajedcoidljhaa", sum := "bd6045fc7b79aa6efa9005e65d7abd8fb7debe245ec55edea90ffa4c79092942", func := "loop.example/g03312/laws.FnExactPiecesOfDescs", spec := "fnExactPiecesOfDescs", apart := false, narrowed := true }
def FnExactPiecesOfDescsUptoSaid : Prop := fnExactPiecesOfDescsUptoRow.holds Try.pinned (OpenSpec.upto fnExactPiecesOfDescsSpec)

end Rows
end Go.Proofs.Yteajedcoidljhaa
