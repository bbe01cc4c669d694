/-
  No cell of these rows narrows 'for every input' (looked for: loops, veiled, ifaces, maps, wideKeys, modest, calm, conditions, laid).
  DERIVED. THE GIVEN ROWS OF THIS SEAT. 12 by the template 'for every input the law returns true; each argument reads behind the call as it read before'; 0 by the template 'total and deterministic' (their statements: YtojkakafomieiaaTotals.lean).
  GIVEN WITH THE SEED: the statements are not yours to turn. If you find one false, say at which input.
  Laid BY PROGRAM, IN A SANDBOX (cutbox-rows.mjs): the forced cells as the released guide's own fill.sh prints them over the translation 86ee91edc7199f92… (all of the seat's roots in one cut). By AI agents, Wed Nov 11 2026. No macro, syntax, notation, axiom, sorry.
-/
import Derived.Test.YtojkakafomieiaaChecked
import GoSem.Claim
import GoSem.ClaimJoined
import GoSem.ClaimMapViews
import Derived.JoinedTies
import Derived.KernelRfl
namespace Go.Proofs.Ytojkakafomieiaa
/- THE CELL 'sum', in the pinned program and in every row, IS THE sha256 OF THE DUMP (.gsa) THAT YtojkakafomieiaaProg.lean LOADS. Nothing in Lean hashes anything: it is a label: what it is worth is what the hold of that sum in a sandbox is worth. -/
noncomputable def Try.pinned : Pinned := { name := "ytojkakafomieiaa", sum := "86ee91edc7199f9226fa114cd1f7beb2a26cef8f6596baa80f6aa9e7cb3ebf73", checked := Try.checked }
namespace Rows
def none {H : Type} : Left H := { results := [], args := [] }

/-- 'laws.FnExactPoolOk': WHATEVER THE INPUT: true; the input reads as it did. -/
def fnExactPoolOkSpec : ChangeSpec := { name := "fnExactPoolOk", fn := fun _ => fun
  | [d] => { results := [.lit (.bool true)], args := [d] }
  | _ => none }
def fnExactPoolOkRow : OpenClaim := { program := "ytojkakafomieiaa", sum := "86ee91edc7199f9226fa114cd1f7beb2a26cef8f6596baa80f6aa9e7cb3ebf73", func := "loop.example/g03312/laws.FnExactPoolOk", spec := "fnExactPoolOk", apart := false }
def FnExactPoolOkSaid : Prop := fnExactPoolOkRow.holds Try.pinned (OpenSpec.ofChange fnExactPoolOkSpec)

/-- ITS FALSE NEIGHBOUR: 'it returns false'. Refute it at one input. -/
def fnExactPoolOkWrong : ChangeSpec := { name := "fnExactPoolOk", fn := fun _ => fun
  | [d] => { results := [.lit (.bool false)], args := [d] }
  | _ => none }
def FnExactPoolOkWrongFalsely : Prop := fnExactPoolOkRow.holds Try.pinned (OpenSpec.ofChange fnExactPoolOkWrong)

/-- 'laws.FnExactNewPool': WHATEVER THE INPUT: true; the input reads as it did. -/
def fnExactNewPoolSpec : ChangeSpec := { name := "fnExactNewPool", fn := fun _ => fun
  | [d1, d2, d3] => { results := [.lit (.bool true)], args := [d1, d2, d3] }
  | _ => none }
def fnExactNewPoolRow : OpenClaim := { program := "ytojkakafomieiaa", sum := "86ee91edc7199f9226fa114cd1f7beb2a26cef8f6596baa80f6aa9e7cb3ebf73", func := "loop.example/g03312/laws.FnExactNewPool", spec := "fnExactNewPool", apart := false }
def FnExactNewPoolSaid : Prop := fnExactNewPoolRow.holds Try.pinned (OpenSpec.ofChange fnExactNewPoolSpec)

/-- ITS FALSE NEIGHBOUR: 'it returns false'. Refute it at one input. -/
def fnExactNewPoolWrong : ChangeSpec := { name := "fnExactNewPool", fn := fun _ => fun
  | [d1, d2, d3] => { results := [.lit (.bool false)], args := [d1, d2, d3] }
  | _ => none }
def FnExactNewPoolWrongFalsely : Prop := fnExactNewPoolRow.holds Try.pinned (OpenSpec.ofChange fnExactNewPoolWrong)

/-- 'laws.FnExactBufferAddress': WHATEVER THE INPUT: true; the input reads as it did. -/
def fnExactBufferAddressSpec : ChangeSpec := { name := "fnExactBufferAddress", fn := fun _ => fun
  | [d1, d2] => { results := [.lit (.bool true)], args := [d1, d2] }
  | _ => none }
def fnExactBufferAddressRow : OpenClaim := { program := "ytojkakafomieiaa", sum := "86ee91edc7199f9226fa114cd1f7beb2a26cef8f6596baa80f6aa9e7cb3ebf73", func := "loop.example/g03312/laws.FnExactBufferAddress", spec := "fnExactBufferAddress", apart := false }
def FnExactBufferAddressSaid : Prop := fnExactBufferAddressRow.holds Try.pinned (OpenSpec.ofChange fnExactBufferAddressSpec)

/-- ITS FALSE NEIGHBOUR: 'it returns false'. Refute it at one input. -/
def fnExactBufferAddressWrong : ChangeSpec := { name := "fnExactBufferAddress", fn := fun _ => fun
  | [d1, d2] => { results := [.lit (.bool false)], args := [d1, d2] }
  | _ => none }
def FnExactBufferAddressWrongFalsely : Prop := fnExactBufferAddressRow.holds Try.pinned (OpenSpec.ofChange fnExactBufferAddressWrong)

/-- 'laws.FnExactTakeBuffers': WHATEVER THE INPUT: true; the input reads as it did. -/
def fnExactTakeBuffersSpec : ChangeSpec := { name := "fnExactTakeBuffers", fn := fun _ => fun
  | [d1, d2] => { results := [.lit (.bool true)], args := [d1, d2] }
  | _ => none }
def fnExactTakeBuffersRow : OpenClaim := { program := "ytojkakafomieiaa", sum := "86ee91edc7199f9226fa114cd1f7beb2a26cef8f6596baa80f6aa9e7cb3ebf73", func := "loop.example/g03312/laws.FnExactTakeBuffers", spec := "fnExactTakeBuffers", apart := false }
def FnExactTakeBuffersSaid : Prop := fnExactTakeBuffersRow.holds Try.pinned (OpenSpec.ofChange fnExactTakeBuffersSpec)

/-- ITS FALSE NEIGHBOUR: 'it returns false'. Refute it at one input. -/
def fnExactTakeBuffersWrong : ChangeSpec := { name := "fnExactTakeBuffers", fn := fun _ => fun
  | [d1, d2] => { results := [.lit (.bool false)], args := [d1, d2] }
  | _ => none }
def FnExactTakeBuffersWrongFalsely : Prop := fnExactTakeBuffersRow.holds Try.pinned (OpenSpec.ofChange fnExactTakeBuffersWrong)

/-- 'laws.FnExactGiveBuffers': WHATEVER THE INPUT: true; the input reads as it did. -/
def fnExactGiveBuffersSpec : ChangeSpec := { name := "fnExactGiveBuffers", fn := fun _ => fun
  | [d1, d2] => { results := [.lit (.bool true)], args := [d1, d2] }
  | _ => none }
def fnExactGiveBuffersRow : OpenClaim := { program := "ytojkakafomieiaa", sum := "86ee91edc7199f9226fa114cd1f7beb2a26cef8f6596baa80f6aa9e7cb3ebf73", func := "loop.example/g03312/laws.FnExactGiveBuffers", spec := "fnExactGiveBuffers", apart := false }
def FnExactGiveBuffersSaid : Prop := fnExactGiveBuffersRow.holds Try.pinned (OpenSpec.ofChange fnExactGiveBuffersSpec)

/-- ITS FALSE NEIGHBOUR: 'it returns false'. Refute it at one input. -/
def fnExactGiveBuffersWrong : ChangeSpec := { name := "fnExactGiveBuffers", fn := fun _ => fun
  | [d1, d2] => { results := [.lit (.bool false)], args := [d1, d2] }
  | _ => none }
def FnExactGiveBuffersWrongFalsely : Prop := fnExactGiveBuffersRow.holds Try.pinned (OpenSpec.ofChange fnExactGiveBuffersWrong)

/-- 'laws.FnBuffers': WHATEVER THE INPUT: true; the input reads as it did. -/
def fnBuffersSpec : ChangeSpec := { name := "fnBuffers", fn := fun _ => fun
  | [d] => { results := [.lit (.bool true)], args := [d] }
  | _ => none }
def fnBuffersRow : OpenClaim := { program := "ytojkakafomieiaa", sum := "86ee91edc7199f9226fa114cd1f7beb2a26cef8f6596baa80f6aa9e7cb3ebf73", func := "loop.example/g03312/laws.FnBuffers", spec := "fnBuffers", apart := false }
def FnBuffersSaid : Prop := fnBuffersRow.holds Try.pinned (OpenSpec.ofChange fnBuffersSpec)

/-- ITS FALSE NEIGHBOUR: 'it returns false'. Refute it at one input. -/
def fnBuffersWrong : ChangeSpec := { name := "fnBuffers", fn := fun _ => fun
  | [d] => { results := [.lit (.bool false)], args := [d] }
  | _ => none }
def FnBuffersWrongFalsely : Prop := fnBuffersRow.holds Try.pinned (OpenSpec.ofChange fnBuffersWrong)

/-- 'laws.FnExactMappingsOk': WHATEVER THE INPUT: true; the input reads as it did. -/
def fnExactMappingsOkSpec : ChangeSpec := { name := "fnExactMappingsOk", fn := fun _ => fun
  | [d] => { results := [.lit (.bool true)], args := [d] }
  | _ => none }
def fnExactMappingsOkRow : OpenClaim := { program := "ytojkakafomieiaa", sum := "86ee91edc7199f9226fa114cd1f7beb2a26cef8f6596baa80f6aa9e7cb3ebf73", func := "loop.example/g03312/laws.FnExactMappingsOk", spec := "fnExactMappingsOk", apart := false }
def FnExactMappingsOkSaid : Prop := fnExactMappingsOkRow.holds Try.pinned (OpenSpec.ofChange fnExactMappingsOkSpec)

/-- ITS FALSE NEIGHBOUR: 'it returns false'. Refute it at one input. -/
def fnExactMappingsOkWrong : ChangeSpec := { name := "fnExactMappingsOk", fn := fun _ => fun
  | [d] => { results := [.lit (.bool false)], args := [d] }
  | _ => none }
def FnExactMappingsOkWrongFalsely : Prop := fnExactMappingsOkRow.holds Try.pinned (OpenSpec.ofChange fnExactMappingsOkWrong)

/-- 'laws.FnExactTranslate': WHATEVER THE INPUT: true; the input reads as it did. -/
def fnExactTranslateSpec : ChangeSpec := { name := "fnExactTranslate", fn := fun _ => fun
  | [d1, d2, d3, d4] => { results := [.lit (.bool true)], args := [d1, d2, d3, d4] }
  | _ => none }
def fnExactTranslateRow : OpenClaim := { program := "ytojkakafomieiaa", sum := "86ee91edc7199f9226fa114cd1f7beb2a26cef8f6596baa80f6aa9e7cb3ebf73", func := "loop.example/g03312/laws.FnExactTranslate", spec := "fnExactTranslate", apart := false }
def FnExactTranslateSaid : Prop := fnExactTranslateRow.holds Try.pinned (OpenSpec.ofChange fnExactTranslateSpec)

/-- ITS FALSE NEIGHBOUR: 'it returns false'. Refute it at one input. -/
def fnExactTranslateWrong : ChangeSpec := { name := "fnExactTranslate", fn := fun _ => fun
  | [d1, d2, d3, d4] => { results := [.lit (.bool false)], args := [d1, d2, d3, d4] }
  | _ => none }
def FnExactTranslateWrongFalsely : Prop := fnExactTranslateRow.holds Try.pinned (OpenSpec.ofChange fnExactTranslateWrong)

/-- 'laws.FnExactMapPage': WHATEVER THE INPUT: true; the input reads as it did. -/
def fnExactMapPageSpec : ChangeSpec := { name := "fnExactMapPage", fn := fun _ => fun
  | [d1, d2] => { results := [.lit (.bool true)], args := [d1, d2] }
  | _ => none }
def fnExactMapPageRow : OpenClaim := { program := "ytojkakafomieiaa", sum := "86ee91edc7199f9226fa114cd1f7beb2a26cef8f6596baa80f6aa9e7cb3ebf73", func := "loop.example/g03312/laws.FnExactMapPage", spec := "fnExactMapPage", apart := false }
def FnExactMapPageSaid : Prop := fnExactMapPageRow.holds Try.pinned (OpenSpec.ofChange fnExactMapPageSpec)

/-- ITS FALSE NEIGHBOUR: 'it returns false'. Refute it at one input. -/
def fnExactMapPageWrong : ChangeSpec := { name := "fnExactMapPage", fn := fun _ => fun
  | [d1, d2] => { results := [.lit (.bool false)], args := [d1, d2] }
  | _ => none }
def FnExactMapPageWrongFalsely : Prop := fnExactMapPageRow.holds Try.pinned (OpenSpec.ofChange fnExactMapPageWrong)

/-- 'laws.FnExactUnmapPage': WHATEVER THE INPUT: true; the input reads as it did. -/
def fnExactUnmapPageSpec : ChangeSpec := { name := "fnExactUnmapPage", fn := fun _ => fun
  | [d1, d2, d3] => { results := [.lit (.bool true)], args := [d1, d2, d3] }
  | _ => none }
def fnExactUnmapPageRow : OpenClaim := { program := "ytojkakafomieiaa", sum := "86ee91edc7199f9226fa114cd1f7beb2a26cef8f6596baa80f6aa9e7cb3ebf73", func := "loop.example/g03312/laws.FnExactUnmapPage", spec := "fnExactUnmapPage", apart := false }
def FnExactUnmapPageSaid : Prop := fnExactUnmapPageRow.holds Try.pinned (OpenSpec.ofChange fnExactUnmapPageSpec)

/-- ITS FALSE NEIGHBOUR: 'it returns false'. Refute it at one input. -/
def fnExactUnmapPageWrong : ChangeSpec := { name := "fnExactUnmapPage", fn := fun _ => fun
  | [d1, d2, d3] => { results := [.lit (.bool false)], args := [d1, d2, d3] }
  | _ => none }
def FnExactUnmapPageWrongFalsely : Prop := fnExactUnmapPageRow.holds Try.pinned (OpenSpec.ofChange fnExactUnmapPageWrong)

/-- 'laws.FnExactWritablePages': WHATEVER THE INPUT: true; the input reads as it did. -/
def fnExactWritablePagesSpec : ChangeSpec := { name := "fnExactWritablePages", fn := fun _ => fun
  | [d1, d2] => { results := [.lit (.bool true)], args := [d1, d2] }
  | _ => none }
def fnExactWritablePagesRow : OpenClaim := { program := "ytojkakafomieiaa", sum := "86ee91edc7199f9226fa114cd1f7beb2a26cef8f6596baa80f6aa9e7cb3ebf73", func := "loop.example/g03312/laws.FnExactWritablePages", spec := "fnExactWritablePages", apart := false }
def FnExactWritablePagesSaid : Prop := fnExactWritablePagesRow.holds Try.pinned (OpenSpec.ofChange fnExactWritablePagesSpec)

/-- ITS FALSE NEIGHBOUR: 'it returns false'. Refute it at one input. -/
def fnExactWritablePagesWrong : ChangeSpec := { name := "fnExactWritablePages", fn := fun _ => fun
  | [d1, d2] => { results := [.lit (.bool false)], args := [d1, d2] }
  | _ => none }
def FnExactWritablePagesWrongFalsely : Prop := fnExactWritablePagesRow.holds Try.pinned (OpenSpec.ofChange fnExactWritablePagesWrong)

/-- 'laws.FnMemoryRound': WHATEVER THE INPUT: true; the input reads as it did. -/
def fnMemoryRoundSpec : ChangeSpec := { name := "fnMemoryRound", fn := fun _ => fun
  | [d] => { results := [.lit (.bool true)], args := [d] }
  | _ => none }
def fnMemoryRoundRow : OpenClaim := { program := "ytojkakafomieiaa", sum := "86ee91edc7199f9226fa114cd1f7beb2a26cef8f6596baa80f6aa9e7cb3ebf73", func := "loop.example/g03312/laws.FnMemoryRound", spec := "fnMemoryRound", apart := false }
def FnMemoryRoundSaid : Prop := fnMemoryRoundRow.holds Try.pinned (OpenSpec.ofChange fnMemoryRoundSpec)

/-- ITS FALSE NEIGHBOUR: 'it returns false'. Refute it at one input. -/
def fnMemoryRoundWrong : ChangeSpec := { name := "fnMemoryRound", fn := fun _ => fun
  | [d] => { results := [.lit (.bool false)], args := [d] }
  | _ => none }
def FnMemoryRoundWrongFalsely : Prop := fnMemoryRoundRow.holds Try.pinned (OpenSpec.ofChange fnMemoryRoundWrong)

/- THE SECOND FORM. 'bulk': how many values and letters a reading holds, each counted each time it is reached (what is shared counts as often as it is met; a slice's spare places count too). A statement '..UptoSaid' is the law's where the arguments, and the package variables that the reading takes, are together of bulk at most 1048576: NARROWER than '..Said'. Prove '..Said' where nothing that the law and all that it calls make is longer than what came in: it says more and counts as full. Else prove '..UptoSaid'. A law counts once. -/
mutual
def uptoBulk {H : Type} : DataW H → Nat
  | .lit (.string bytes) => bytes.length + 1
  | .lit _ => 1
  | .nil => 1
  | .ptr d => uptoBulk d + 1
  | .slice elems spare => uptoBulkAll elems + uptoBulkAll spare + 1
  | .agg parts => uptoBulkAll parts + 1
  | .iface _ d => uptoBulk d + 1
  | .map entries => uptoBulkEntries entries + 1
  | .held _ => 1
def uptoBulkAll {H : Type} : List (DataW H) → Nat
  | [] => 0
  | d :: r => uptoBulk d + uptoBulkAll r
def uptoBulkEntries {H : Type} : List (Lit × DataW H) → Nat
  | [] => 0
  | x :: r => uptoBulkEntry x + uptoBulkEntries r
def uptoBulkEntry {H : Type} : Lit × DataW H → Nat
  | (.string bytes, d) => bytes.length + uptoBulk d + 1
  | (_, d) => uptoBulk d + 1
 end
def uptoSmall : (H : Type) → List (DataW H) → Bool := fun _ ds => decide (uptoBulkAll ds ≤ 1048576)
def OpenSpec.upto (s : _root_.Go.ChangeSpec) : _root_.Go.OpenSpec := { _root_.Go.OpenSpec.ofChange s with cond := some uptoSmall }

/-- 'laws.FnExactPoolOk', WHERE WHAT IT READS IS OF BULK AT MOST 1048576: true; the input reads as it did. -/
def fnExactPoolOkUptoRow : OpenClaim := { program := "ytojkakafomieiaa", sum := "86ee91edc7199f9226fa114cd1f7beb2a26cef8f6596baa80f6aa9e7cb3ebf73", func := "loop.example/g03312/laws.FnExactPoolOk", spec := "fnExactPoolOk", apart := false, narrowed := true }
def FnExactPoolOkUptoSaid : Prop := fnExactPoolOkUptoRow.holds Try.pinned (OpenSpec.upto fnExactPoolOkSpec)

/-- 'laws.FnExactNewPool', WHERE WHAT IT READS IS OF BULK AT MOST 1048576: true; the input reads as it did. -/
def fnExactNewPoolUptoRow : OpenClaim := { program := "ytojkakafomieiaa", sum := "86ee91edc7199f9226fa114cd1f7beb2a26cef8f6596baa80f6aa9e7cb3ebf73", func := "loop.example/g03312/laws.FnExactNewPool", spec := "fnExactNewPool", apart := false, narrowed := true }
def FnExactNewPoolUptoSaid : Prop := fnExactNewPoolUptoRow.holds Try.pinned (OpenSpec.upto fnExactNewPoolSpec)

/-- 'laws.FnExactBufferAddress', WHERE WHAT IT READS IS OF BULK AT MOST 1048576: true; the input reads as it did. -/
def fnExactBufferAddressUptoRow : OpenClaim := { program := "ytojkakafomieiaa", sum := "86ee91edc7199f9226fa114cd1f7beb2a26cef8f6596baa80f6aa9e7cb3ebf73", func := "loop.example/g03312/laws.FnExactBufferAddress", spec := "fnExactBufferAddress", apart := false, narrowed := true }
def FnExactBufferAddressUptoSaid : Prop := fnExactBufferAddressUptoRow.holds Try.pinned (OpenSpec.upto fnExactBufferAddressSpec)

/-- 'laws.FnExactTakeBuffers', WHERE WHAT IT READS IS OF BULK AT MOST 1048576: true; the input reads as it did. -/
def fnExactTakeBuffersUptoRow : OpenClaim := { program := "ytojkakafomieiaa", sum := "86ee91edc7199f9226fa114cd1f7beb2a26cef8f6596baa80f6aa9e7cb3ebf73", func := "loop.example/g03312/laws.FnExactTakeBuffers", spec := "fnExactTakeBuffers", apart := false, narrowed := true }
def FnExactTakeBuffersUptoSaid : Prop := fnExactTakeBuffersUptoRow.holds Try.pinned (OpenSpec.upto fnExactTakeBuffersSpec)

/-- 'laws.FnExactGiveBuffers', WHERE WHAT IT READS IS OF BULK AT MOST 1048576: true; the input reads as it did. -/
def fnExactGiveBuffersUptoRow : OpenClaim := { program := "ytojkakafomieiaa", sum := "86ee91edc7199f9226fa114cd1f7beb2a26cef8f6596baa80f6aa9e7cb3ebf73", func := "loop.example/g03312/laws.FnExactGiveBuffers", spec := "fnExactGiveBuffers", apart := false, narrowed := true }
def FnExactGiveBuffersUptoSaid : Prop := fnExactGiveBuffersUptoRow.holds Try.pinned (OpenSpec.upto fnExactGiveBuffersSpec)

/-- 'laws.FnBuffers', WHERE WHAT IT READS IS OF BULK AT MOST 1048576: true; the input reads as it did. -/
def fnBuffersUptoRow : OpenClaim := { program := "ytojkakafomieiaa", sum := "86ee91edc7199f9226fa114cd1f7beb2a26cef8f6596baa80f6aa9e7cb3ebf73", func := "loop.example/g03312/laws.FnBuffers", spec := "fnBuffers", apart := false, narrowed := true }
def FnBuffersUptoSaid : Prop := fnBuffersUptoRow.holds Try.pinned (OpenSpec.upto fnBuffersSpec)

/-- 'laws.FnExactMappingsOk', WHERE WHAT IT READS IS OF BULK AT MOST 1048576: true; the input reads as it did. -/
def fnExactMappingsOkUptoRow : OpenClaim := { program := "ytojkakafomieiaa", sum := "86ee91edc7199f9226fa114cd1f7beb2a26cef8f6596baa80f6aa9e7cb3ebf73", func := "loop.example/g03312/laws.FnExactMappingsOk", spec := "fnExactMappingsOk", apart := false, narrowed := true }
def FnExactMappingsOkUptoSaid : Prop := fnExactMappingsOkUptoRow.holds Try.pinned (OpenSpec.upto fnExactMappingsOkSpec)

/-- 'laws.FnExactTranslate', WHERE WHAT IT READS IS OF BULK AT MOST 1048576: true; the input reads as it did. -/
def fnExactTranslateUptoRow : OpenClaim := { program := "ytojkakafomieiaa", sum := "86ee91edc7199f9226fa114cd1f7beb2a26cef8f6596baa80f6aa9e7cb3ebf73", func := "loop.example/g03312/laws.FnExactTranslate", spec := "fnExactTranslate", apart := false, narrowed := true }
def FnExactTranslateUptoSaid : Prop := fnExactTranslateUptoRow.holds Try.pinned (OpenSpec.upto fnExactTranslateSpec)

/-- 'laws.FnExactMapPage', WHERE WHAT IT READS IS OF BULK AT MOST 1048576: true; the input reads as it did. -/
def fnExactMapPageUptoRow : OpenClaim := { program := "ytojkakafomieiaa", sum := "86ee91edc7199f9226fa114cd1f7beb2a26cef8f6596baa80f6aa9e7cb3ebf73", func := "loop.example/g03312/laws.FnExactMapPage", spec := "fnExactMapPage", apart := false, narrowed := true }
def FnExactMapPageUptoSaid : Prop := fnExactMapPageUptoRow.holds Try.pinned (OpenSpec.upto fnExactMapPageSpec)

/-- 'laws.FnExactUnmapPage', WHERE WHAT IT READS IS OF BULK AT MOST 1048576: true; the input reads as it did. -/
def fnExactUnmapPageUptoRow : OpenClaim := { program := "ytojkakafomieiaa", sum := "86ee91edc7199f9226fa114cd1f7beb2a26cef8f6596baa80f6aa9e7cb3ebf73", func := "loop.example/g03312/laws.FnExactUnmapPage", spec := "fnExactUnmapPage", apart := false, narrowed := true }
def FnExactUnmapPageUptoSaid : Prop := fnExactUnmapPageUptoRow.holds Try.pinned (OpenSpec.upto fnExactUnmapPageSpec)

/-- 'laws.FnExactWritablePages', WHERE WHAT IT READS IS OF BULK AT MOST 1048576: true; the input reads as it did. -/
def fnExactWritablePagesUptoRow : OpenClaim := { program := "ytojkakafomieiaa", sum := "86ee91edc7199f9226fa114cd1f7beb2a26cef8f6596baa80f6aa9e7cb3ebf73", func := "loop.example/g03312/laws.FnExactWritablePages", spec := "fnExactWritablePages", apart := false, narrowed := true }
def FnExactWritablePagesUptoSaid : Prop := fnExactWritablePagesUptoRow.holds Try.pinned (OpenSpec.upto fnExactWritablePagesSpec)

/-- 'laws.FnMemoryRound', WHERE WHAT IT READS IS OF BULK AT MOST 1048576: true; the input reads as it did. -/
def fnMemoryRoundUptoRow : OpenClaim := { program := "ytojkakafomieiaa", sum := "86ee91edc7199f9226fa114cd1f7beb2a26cef8f6596baa80f6aa9e7cb3ebf73", func := "loop.example/g03312/laws.FnMemoryRound", spec := "fnMemoryRound", apart := false, narrowed := true }
def FnMemoryRoundUptoSaid : Prop := fnMemoryRoundUptoRow.holds Try.pinned (OpenSpec.upto fnMemoryRoundSpec)

end Rows
end Go.Proofs.Ytojkakafomieiaa
