/-
  No cell of these rows narrows 'for every input' (looked for: loops, veiled, ifaces, maps, wideKeys, modest, calm, conditions, laid).
  DERIVED. THE GIVEN ROWS OF THIS SEAT. 8 by the template 'for every input the law returns true; each argument reads behind the call as it read before'; 0 by the template 'total and deterministic' (their statements: YtifbfmafogmemaaTotals.lean).
  GIVEN WITH THE SEED: the statements are not yours to turn. If you find one false, say at which input.
  Laid BY PROGRAM, IN A SANDBOX (cutbox-rows.mjs): the forced cells as the released guide's own fill.sh prints them over the translation 185cf4e360b63c9d… (all of the seat's roots in one cut). By AI agents, Wed Nov 11 2026. No macro, syntax, notation, axiom, sorry.
-/
import Derived.Test.YtifbfmafogmemaaChecked
import GoSem.Claim
import GoSem.ClaimJoined
import GoSem.ClaimMapViews
import Derived.JoinedTies
import Derived.KernelRfl
namespace Go.Proofs.Ytifbfmafogmemaa
/- THE CELL 'sum', in the pinned program and in every row, IS THE sha256 OF THE DUMP (.gsa) THAT YtifbfmafogmemaaProg.lean LOADS. Nothing in Lean hashes anything: it is a label: what it is worth is what the hold of that sum in a sandbox is worth. -/
noncomputable def Try.pinned : Pinned := { name := "ytifbfmafogmemaa", sum := "185cf4e360b63c9db9c621a43fc89ba26e1bf97e9d256294698891c3403c9dc1", checked := Try.checked }
namespace Rows
def none {H : Type} : Left H := { results := [], args := [] }

/-- 'laws.FnExactTemplate': WHATEVER THE INPUT: true; the input reads as it did. -/
def fnExactTemplateSpec : ChangeSpec := { name := "fnExactTemplate", fn := fun _ => fun
  | [d] => { results := [.lit (.bool true)], args := [d] }
  | _ => none }
def fnExactTemplateRow : OpenClaim := { program := "ytifbfmafogmemaa", sum := "185cf4e360b63c9db9c621a43fc89ba26e1bf97e9d256294698891c3403c9dc1", func := "loop.example/g03312/laws.FnExactTemplate", spec := "fnExactTemplate", apart := false }
def FnExactTemplateSaid : Prop := fnExactTemplateRow.holds Try.pinned (OpenSpec.ofChange fnExactTemplateSpec)

/-- ITS FALSE NEIGHBOUR: 'it returns false'. Refute it at one input. -/
def fnExactTemplateWrong : ChangeSpec := { name := "fnExactTemplate", fn := fun _ => fun
  | [d] => { results := [.lit (.bool false)], args := [d] }
  | _ => none }
def FnExactTemplateWrongFalsely : Prop := fnExactTemplateRow.holds Try.pinned (OpenSpec.ofChange fnExactTemplateWrong)

/-- 'laws.FnExactFillSums': WHATEVER THE INPUT: true; the input reads as it did. -/
def fnExactFillSumsSpec : ChangeSpec := { name := "fnExactFillSums", fn := fun _ => fun
  | [d] => { results := [.lit (.bool true)], args := [d] }
  | _ => none }
def fnExactFillSumsRow : OpenClaim := { program := "ytifbfmafogmemaa", sum := "185cf4e360b63c9db9c621a43fc89ba26e1bf97e9d256294698891c3403c9dc1", func := "loop.example/g03312/laws.FnExactFillSums", spec := "fnExactFillSums", apart := false }
def FnExactFillSumsSaid : Prop := fnExactFillSumsRow.holds Try.pinned (OpenSpec.ofChange fnExactFillSumsSpec)

/-- ITS FALSE NEIGHBOUR: 'it returns false'. Refute it at one input. -/
def fnExactFillSumsWrong : ChangeSpec := { name := "fnExactFillSums", fn := fun _ => fun
  | [d] => { results := [.lit (.bool false)], args := [d] }
  | _ => none }
def FnExactFillSumsWrongFalsely : Prop := fnExactFillSumsRow.holds Try.pinned (OpenSpec.ofChange fnExactFillSumsWrong)

/-- 'laws.FnTemplates': WHATEVER THE INPUT: true; the input reads as it did. -/
def fnTemplatesSpec : ChangeSpec := { name := "fnTemplates", fn := fun _ => fun
  | [d] => { results := [.lit (.bool true)], args := [d] }
  | _ => none }
def fnTemplatesRow : OpenClaim := { program := "ytifbfmafogmemaa", sum := "185cf4e360b63c9db9c621a43fc89ba26e1bf97e9d256294698891c3403c9dc1", func := "loop.example/g03312/laws.FnTemplates", spec := "fnTemplates", apart := false }
def FnTemplatesSaid : Prop := fnTemplatesRow.holds Try.pinned (OpenSpec.ofChange fnTemplatesSpec)

/-- ITS FALSE NEIGHBOUR: 'it returns false'. Refute it at one input. -/
def fnTemplatesWrong : ChangeSpec := { name := "fnTemplates", fn := fun _ => fun
  | [d] => { results := [.lit (.bool false)], args := [d] }
  | _ => none }
def FnTemplatesWrongFalsely : Prop := fnTemplatesRow.holds Try.pinned (OpenSpec.ofChange fnTemplatesWrong)

/-- 'laws.FnExactSteerPacket': WHATEVER THE INPUT: true; the input reads as it did. -/
def fnExactSteerPacketSpec : ChangeSpec := { name := "fnExactSteerPacket", fn := fun _ => fun
  | [d1, d2, d3] => { results := [.lit (.bool true)], args := [d1, d2, d3] }
  | _ => none }
def fnExactSteerPacketRow : OpenClaim := { program := "ytifbfmafogmemaa", sum := "185cf4e360b63c9db9c621a43fc89ba26e1bf97e9d256294698891c3403c9dc1", func := "loop.example/g03312/laws.FnExactSteerPacket", spec := "fnExactSteerPacket", apart := false }
def FnExactSteerPacketSaid : Prop := fnExactSteerPacketRow.holds Try.pinned (OpenSpec.ofChange fnExactSteerPacketSpec)

/-- ITS FALSE NEIGHBOUR: 'it returns false'. Refute it at one input. -/
def fnExactSteerPacketWrong : ChangeSpec := { name := "fnExactSteerPacket", fn := fun _ => fun
  | [d1, d2, d3] => { results := [.lit (.bool false)], args := [d1, d2, d3] }
  | _ => none }
def FnExactSteerPacketWrongFalsely : Prop := fnExactSteerPacketRow.holds Try.pinned (OpenSpec.ofChange fnExactSteerPacketWrong)

/-- 'laws.FnExactPinFlows': WHATEVER THE INPUT: true; the input reads as it did. -/
def fnExactPinFlowsSpec : ChangeSpec := { name := "fnExactPinFlows", fn := fun _ => fun
  | [d1, d2, d3, d4] => { results := [.lit (.bool true)], args := [d1, d2, d3, d4] }
  | _ => none }
def fnExactPinFlowsRow : OpenClaim := { program := "ytifbfmafogmemaa", sum := "185cf4e360b63c9db9c621a43fc89ba26e1bf97e9d256294698891c3403c9dc1", func := "loop.example/g03312/laws.FnExactPinFlows", spec := "fnExactPinFlows", apart := false }
def FnExactPinFlowsSaid : Prop := fnExactPinFlowsRow.holds Try.pinned (OpenSpec.ofChange fnExactPinFlowsSpec)

/-- ITS FALSE NEIGHBOUR: 'it returns false'. Refute it at one input. -/
def fnExactPinFlowsWrong : ChangeSpec := { name := "fnExactPinFlows", fn := fun _ => fun
  | [d1, d2, d3, d4] => { results := [.lit (.bool false)], args := [d1, d2, d3, d4] }
  | _ => none }
def FnExactPinFlowsWrongFalsely : Prop := fnExactPinFlowsRow.holds Try.pinned (OpenSpec.ofChange fnExactPinFlowsWrong)

/-- 'laws.FnExactQueuePackets': WHATEVER THE INPUT: true; the input reads as it did. -/
def fnExactQueuePacketsSpec : ChangeSpec := { name := "fnExactQueuePackets", fn := fun _ => fun
  | [d1, d2, d3, d4] => { results := [.lit (.bool true)], args := [d1, d2, d3, d4] }
  | _ => none }
def fnExactQueuePacketsRow : OpenClaim := { program := "ytifbfmafogmemaa", sum := "185cf4e360b63c9db9c621a43fc89ba26e1bf97e9d256294698891c3403c9dc1", func := "loop.example/g03312/laws.FnExactQueuePackets", spec := "fnExactQueuePackets", apart := false }
def FnExactQueuePacketsSaid : Prop := fnExactQueuePacketsRow.holds Try.pinned (OpenSpec.ofChange fnExactQueuePacketsSpec)

/-- ITS FALSE NEIGHBOUR: 'it returns false'. Refute it at one input. -/
def fnExactQueuePacketsWrong : ChangeSpec := { name := "fnExactQueuePackets", fn := fun _ => fun
  | [d1, d2, d3, d4] => { results := [.lit (.bool false)], args := [d1, d2, d3, d4] }
  | _ => none }
def FnExactQueuePacketsWrongFalsely : Prop := fnExactQueuePacketsRow.holds Try.pinned (OpenSpec.ofChange fnExactQueuePacketsWrong)

/-- 'laws.FnOneQueue': WHATEVER THE INPUT: true; the input reads as it did. -/
def fnOneQueueSpec : ChangeSpec := { name := "fnOneQueue", fn := fun _ => fun
  | [d] => { results := [.lit (.bool true)], args := [d] }
  | _ => none }
def fnOneQueueRow : OpenClaim := { program := "ytifbfmafogmemaa", sum := "185cf4e360b63c9db9c621a43fc89ba26e1bf97e9d256294698891c3403c9dc1", func := "loop.example/g03312/laws.FnOneQueue", spec := "fnOneQueue", apart := false }
def FnOneQueueSaid : Prop := fnOneQueueRow.holds Try.pinned (OpenSpec.ofChange fnOneQueueSpec)

/-- ITS FALSE NEIGHBOUR: 'it returns false'. Refute it at one input. -/
def fnOneQueueWrong : ChangeSpec := { name := "fnOneQueue", fn := fun _ => fun
  | [d] => { results := [.lit (.bool false)], args := [d] }
  | _ => none }
def FnOneQueueWrongFalsely : Prop := fnOneQueueRow.holds Try.pinned (OpenSpec.ofChange fnOneQueueWrong)

/-- 'laws.FnPinned': WHATEVER THE INPUT: true; the input reads as it did. -/
def fnPinnedSpec : ChangeSpec := { name := "fnPinned", fn := fun _ => fun
  | [d] => { results := [.lit (.bool true)], args := [d] }
  | _ => none }
def fnPinnedRow : OpenClaim := { program := "ytifbfmafogmemaa", sum := "185cf4e360b63c9db9c621a43fc89ba26e1bf97e9d256294698891c3403c9dc1", func := "loop.example/g03312/laws.FnPinned", spec := "fnPinned", apart := false }
def FnPinnedSaid : Prop := fnPinnedRow.holds Try.pinned (OpenSpec.ofChange fnPinnedSpec)

/-- ITS FALSE NEIGHBOUR: 'it returns false'. Refute it at one input. -/
def fnPinnedWrong : ChangeSpec := { name := "fnPinned", fn := fun _ => fun
  | [d] => { results := [.lit (.bool false)], args := [d] }
  | _ => none }
def FnPinnedWrongFalsely : Prop := fnPinnedRow.holds Try.pinned (OpenSpec.ofChange fnPinnedWrong)

/- THE SECOND FORM. 'bulk': how many values and letters a reading holds, each counted each time it is reached (what is shared counts as often as it is met; a slice's spare places count too). A statement '..UptoSaid' is the law's where the arguments, and the package variables that the reading takes, are together of bulk at most 1048576: NARROWER than '..Said'. Prove '..Said' where nothing that the law and all that it calls make is longer than what came in: it says more and counts as full. Else prove '..UptoSaid'. A law counts once. -/
mutual
def uptoBulk {H : Type} : DataW H → Nat
  | .lit (.string bytes) => bytes.length + 1
  | .lit _ => 1
  | .nil => 1
  | .ptr d => uptoBulk d + 1
  | .slice elems spare => uptoBulkAll elems + uptoBulkAll spare + 1
  | .agg parts => uptoBulkAll parts + 1
  | .iface _ d => uptoBulk d + 1
  | .map entries => uptoBulkEntries entries + 1
  | .held _ => 1
def uptoBulkAll {H : Type} : List (DataW H) → Nat
  | [] => 0
  | d :: r => uptoBulk d + uptoBulkAll r
def uptoBulkEntries {H : Type} : List (Lit × DataW H) → Nat
  | [] => 0
  | x :: r => uptoBulkEntry x + uptoBulkEntries r
def uptoBulkEntry {H : Type} : Lit × DataW H → Nat
  | (.string bytes, d) => bytes.length + uptoBulk d + 1
  | (_, d) => uptoBulk d + 1
 end
def uptoSmall : (H : Type) → List (DataW H) → Bool := fun _ ds => decide (uptoBulkAll ds ≤ 1048576)
def OpenSpec.upto (s : _root_.Go.ChangeSpec) : _root_.Go.OpenSpec := { _root_.Go.OpenSpec.ofChange s with cond := some uptoSmall }

/-- 'laws.FnExactTemplate', WHERE WHAT IT READS IS OF BULK AT MOST 1048576: true; the input reads as it did. -/
def fnExactTemplateUptoRow : OpenClaim := { program := "ytifbfmafogmemaa", sum := "185cf4e360b63c9db9c621a43fc89ba26e1bf97e9d256294698891c3403c9dc1", func := "loop.example/g03312/laws.FnExactTemplate", spec := "fnExactTemplate", apart := false, narrowed := true }
def FnExactTemplateUptoSaid : Prop := fnExactTemplateUptoRow.holds Try.pinned (OpenSpec.upto fnExactTemplateSpec)

/-- 'laws.FnExactFillSums', WHERE WHAT IT READS IS OF BULK AT MOST 1048576: true; the input reads as it did. -/
def fnExactFillSumsUptoRow : OpenClaim := { program := "ytifbfmafogmemaa", sum := "185cf4e360b63c9db9c621a43fc89ba26e1bf97e9d256294698891c3403c9dc1", func := "loop.example/g03312/laws.FnExactFillSums", spec := "fnExactFillSums", apart := false, narrowed := true }
def FnExactFillSumsUptoSaid : Prop := fnExactFillSumsUptoRow.holds Try.pinned (OpenSpec.upto fnExactFillSumsSpec)

/-- 'laws.FnTemplates', WHERE WHAT IT READS IS OF BULK AT MOST 1048576: true; the input reads as it did. -/
def fnTemplatesUptoRow : OpenClaim := { program := "ytifbfmafogmemaa", sum := "185cf4e360b63c9db9c621a43fc89ba26e1bf97e9d256294698891c3403c9dc1", func := "loop.example/g03312/laws.FnTemplates", spec := "fnTemplates", apart := false, narrowed := true }
def FnTemplatesUptoSaid : Prop := fnTemplatesUptoRow.holds Try.pinned (OpenSpec.upto fnTemplatesSpec)

/-- 'laws.FnExactSteerPacket', WHERE WHAT IT READS IS OF BULK AT MOST 1048576: true; the input reads as it did. -/
def fnExactSteerPacketUptoRow : OpenClaim := { program := "ytifbfmafogmemaa", sum := "185cf4e360b63c9db9c621a43fc89ba26e1bf97e9d256294698891c3403c9dc1", func := "loop.example/g03312/laws.FnExactSteerPacket", spec := "fnExactSteerPacket", apart := false, narrowed := true }
def FnExactSteerPacketUptoSaid : Prop := fnExactSteerPacketUptoRow.holds Try.pinned (OpenSpec.upto fnExactSteerPacketSpec)

/-- 'laws.FnExactPinFlows', WHERE WHAT IT READS IS OF BULK AT MOST 1048576: true; the input reads as it did. -/
def fnExactPinFlowsUptoRow : OpenClaim := { program := "ytifbfmafogmemaa", sum := "185cf4e360b63c9db9c621a43fc89ba26e1bf97e9d256294698891c3403c9dc1", func := "loop.example/g03312/laws.FnExactPinFlows", spec := "fnExactPinFlows", apart := false, narrowed := true }
def FnExactPinFlowsUptoSaid : Prop := fnExactPinFlowsUptoRow.holds Try.pinned (OpenSpec.upto fnExactPinFlowsSpec)

/-- 'laws.FnExactQueuePackets', WHERE WHAT IT READS IS OF BULK AT MOST 1048576: true; the input reads as it did. -/
def fnExactQueuePacketsUptoRow : OpenClaim := { program := "ytifbfmafogmemaa", sum := "185cf4e360b63c9db9c621a43fc89ba26e1bf97e9d256294698891c3403c9dc1", func := "loop.example/g03312/laws.FnExactQueuePackets", spec := "fnExactQueuePackets", apart := false, narrowed := true }
def FnExactQueuePacketsUptoSaid : Prop := fnExactQueuePacketsUptoRow.holds Try.pinned (OpenSpec.upto fnExactQueuePacketsSpec)

/-- 'laws.FnOneQueue', WHERE WHAT IT READS IS OF BULK AT MOST 1048576: true; the input reads as it did. -/
def fnOneQueueUptoRow : OpenClaim := { program := "ytifbfmafogmemaa", sum := "185cf4e360b63c9db9c621a43fc89ba26e1bf97e9d256294698891c3403c9dc1", func := "loop.example/g03312/laws.FnOneQueue", spec := "fnOneQueue", apart := false, narrowed := true }
def FnOneQueueUptoSaid : Prop := fnOneQueueUptoRow.holds Try.pinned (OpenSpec.upto fnOneQueueSpec)

/-- 'laws.FnPinned', WHERE WHAT IT READS IS OF BULK AT MOST 1048576: true; the input reads as it did. -/
def fnPinnedUptoRow : OpenClaim := { program := "ytifbfmafogmemaa", sum := "185cf4e360b63c9db9c621a43fc89ba26e1bf97e9d256294698891c3403c9dc1", func := "loop.example/g03312/laws.FnPinned", spec := "fnPinned", apart := false, narrowed := true }
def FnPinnedUptoSaid : Prop := fnPinnedUptoRow.holds Try.pinned (OpenSpec.upto fnPinnedSpec)

end Rows
end Go.Proofs.Ytifbfmafogmemaa
