/-
  No cell of these rows narrows 'for every input' (looked for: loops, veiled, ifaces, maps, wideKeys, modest, calm, conditions, laid).
  DERIVED. THE GIVEN ROWS OF THIS SEAT. 6 by the template 'for every input the law returns true; each argument reads behind the call as it read before'; 0 by the template 'total and deterministic' (their statements: YtlhmpbaajaojgaaTotals.lean).
  GIVEN WITH THE SEED: the statements are not yours to turn. If you find one false, say at which input.
  Laid BY PROGRAM, IN A SANDBOX (cutbox-rows.mjs): the forced cells as the released guide's own fill.sh prints them over the translation c207f3523c9dae2f… (all of the seat's roots in one cut). By AI agents, Wed Nov 11 2026. No macro, syntax, notation, axiom, sorry.
-/
import Derived.Test.YtlhmpbaajaojgaaChecked
import GoSem.Claim
import GoSem.ClaimJoined
import GoSem.ClaimMapViews
import Derived.JoinedTies
import Derived.KernelRfl
namespace Go.Proofs.Ytlhmpbaajaojgaa
/- THE CELL 'sum', in the pinned program and in every row, IS THE sha256 OF THE DUMP (.gsa) THAT YtlhmpbaajaojgaaProg.lean LOADS. Nothing in Lean hashes anything: it is a label: what it is worth is what the hold of that sum in a sandbox is worth. -/
noncomputable def Try.pinned : Pinned := { name := "ytlhmpbaajaojgaa", sum := "c207f3523c9dae2fe80c7d3b09a5bf2ad60345ffc1521e88992a0450b8145497", checked := Try.checked }
namespace Rows
def none {H : Type} : Left H := { results := [], args := [] }

/-- 'laws.FnExactDescOk': WHATEVER THE INPUT: true; the input reads as it did. -/
def fnExactDescOkSpec : ChangeSpec := { name := "fnExactDescOk", fn := fun _ => fun
  | [d] => { results := [.lit (.bool true)], args := [d] }
  | _ => none }
def fnExactDescOkRow : OpenClaim := { program := "ytlhmpbaajaojgaa", sum := "c207f3523c9dae2fe80c7d3b09a5bf2ad60345ffc1521e88992a0450b8145497", func := "loop.example/g03312/laws.FnExactDescOk", spec := "fnExactDescOk", apart := false }
def FnExactDescOkSaid : Prop := fnExactDescOkRow.holds Try.pinned (OpenSpec.ofChange fnExactDescOkSpec)

/-- ITS FALSE NEIGHBOUR: 'it returns false'. Refute it at one input. -/
def fnExactDescOkWrong : ChangeSpec := { name := "fnExactDescOk", fn := fun _ => fun
  | [d] => { results := [.lit (.bool false)], args := [d] }
  | _ => none }
def FnExactDescOkWrongFalsely : Prop := fnExactDescOkRow.holds Try.pinned (OpenSpec.ofChange fnExactDescOkWrong)

/-- 'laws.FnExactRingUsed': WHATEVER THE INPUT: true; the input reads as it did. -/
def fnExactRingUsedSpec : ChangeSpec := { name := "fnExactRingUsed", fn := fun _ => fun
  | [d] => { results := [.lit (.bool true)], args := [d] }
  | _ => none }
def fnExactRingUsedRow : OpenClaim := { program := "ytlhmpbaajaojgaa", sum := "c207f3523c9dae2fe80c7d3b09a5bf2ad60345ffc1521e88992a0450b8145497", func := "loop.example/g03312/laws.FnExactRingUsed", spec := "fnExactRingUsed", apart := false }
def FnExactRingUsedSaid : Prop := fnExactRingUsedRow.holds Try.pinned (OpenSpec.ofChange fnExactRingUsedSpec)

/-- ITS FALSE NEIGHBOUR: 'it returns false'. Refute it at one input. -/
def fnExactRingUsedWrong : ChangeSpec := { name := "fnExactRingUsed", fn := fun _ => fun
  | [d] => { results := [.lit (.bool false)], args := [d] }
  | _ => none }
def FnExactRingUsedWrongFalsely : Prop := fnExactRingUsedRow.holds Try.pinned (OpenSpec.ofChange fnExactRingUsedWrong)

/-- 'laws.FnExactRingOk': WHATEVER THE INPUT: true; the input reads as it did. -/
def fnExactRingOkSpec : ChangeSpec := { name := "fnExactRingOk", fn := fun _ => fun
  | [d] => { results := [.lit (.bool true)], args := [d] }
  | _ => none }
def fnExactRingOkRow : OpenClaim := { program := "ytlhmpbaajaojgaa", sum := "c207f3523c9dae2fe80c7d3b09a5bf2ad60345ffc1521e88992a0450b8145497", func := "loop.example/g03312/laws.FnExactRingOk", spec := "fnExactRingOk", apart := false }
def FnExactRingOkSaid : Prop := fnExactRingOkRow.holds Try.pinned (OpenSpec.ofChange fnExactRingOkSpec)

/-- ITS FALSE NEIGHBOUR: 'it returns false'. Refute it at one input. -/
def fnExactRingOkWrong : ChangeSpec := { name := "fnExactRingOk", fn := fun _ => fun
  | [d] => { results := [.lit (.bool false)], args := [d] }
  | _ => none }
def FnExactRingOkWrongFalsely : Prop := fnExactRingOkRow.holds Try.pinned (OpenSpec.ofChange fnExactRingOkWrong)

/-- 'laws.FnExactRingFree': WHATEVER THE INPUT: true; the input reads as it did. -/
def fnExactRingFreeSpec : ChangeSpec := { name := "fnExactRingFree", fn := fun _ => fun
  | [d] => { results := [.lit (.bool true)], args := [d] }
  | _ => none }
def fnExactRingFreeRow : OpenClaim := { program := "ytlhmpbaajaojgaa", sum := "c207f3523c9dae2fe80c7d3b09a5bf2ad60345ffc1521e88992a0450b8145497", func := "loop.example/g03312/laws.FnExactRingFree", spec := "fnExactRingFree", apart := false }
def FnExactRingFreeSaid : Prop := fnExactRingFreeRow.holds Try.pinned (OpenSpec.ofChange fnExactRingFreeSpec)

/-- ITS FALSE NEIGHBOUR: 'it returns false'. Refute it at one input. -/
def fnExactRingFreeWrong : ChangeSpec := { name := "fnExactRingFree", fn := fun _ => fun
  | [d] => { results := [.lit (.bool false)], args := [d] }
  | _ => none }
def FnExactRingFreeWrongFalsely : Prop := fnExactRingFreeRow.holds Try.pinned (OpenSpec.ofChange fnExactRingFreeWrong)

/-- 'laws.FnExactSlotAddress': WHATEVER THE INPUT: true; the input reads as it did. -/
def fnExactSlotAddressSpec : ChangeSpec := { name := "fnExactSlotAddress", fn := fun _ => fun
  | [d1, d2] => { results := [.lit (.bool true)], args := [d1, d2] }
  | _ => none }
def fnExactSlotAddressRow : OpenClaim := { program := "ytlhmpbaajaojgaa", sum := "c207f3523c9dae2fe80c7d3b09a5bf2ad60345ffc1521e88992a0450b8145497", func := "loop.example/g03312/laws.FnExactSlotAddress", spec := "fnExactSlotAddress", apart := false }
def FnExactSlotAddressSaid : Prop := fnExactSlotAddressRow.holds Try.pinned (OpenSpec.ofChange fnExactSlotAddressSpec)

/-- ITS FALSE NEIGHBOUR: 'it returns false'. Refute it at one input. -/
def fnExactSlotAddressWrong : ChangeSpec := { name := "fnExactSlotAddress", fn := fun _ => fun
  | [d1, d2] => { results := [.lit (.bool false)], args := [d1, d2] }
  | _ => none }
def FnExactSlotAddressWrongFalsely : Prop := fnExactSlotAddressRow.holds Try.pinned (OpenSpec.ofChange fnExactSlotAddressWrong)

/-- 'laws.FnExactEncodeDesc': WHATEVER THE INPUT: true; the input reads as it did. -/
def fnExactEncodeDescSpec : ChangeSpec := { name := "fnExactEncodeDesc", fn := fun _ => fun
  | [d] => { results := [.lit (.bool true)], args := [d] }
  | _ => none }
def fnExactEncodeDescRow : OpenClaim := { program := "ytlhmpbaajaojgaa", sum := "c207f3523c9dae2fe80c7d3b09a5bf2ad60345ffc1521e88992a0450b8145497", func := "loop.example/g03312/laws.FnExactEncodeDesc", spec := "fnExactEncodeDesc", apart := false }
def FnExactEncodeDescSaid : Prop := fnExactEncodeDescRow.holds Try.pinned (OpenSpec.ofChange fnExactEncodeDescSpec)

/-- ITS FALSE NEIGHBOUR: 'it returns false'. Refute it at one input. -/
def fnExactEncodeDescWrong : ChangeSpec := { name := "fnExactEncodeDesc", fn := fun _ => fun
  | [d] => { results := [.lit (.bool false)], args := [d] }
  | _ => none }
def FnExactEncodeDescWrongFalsely : Prop := fnExactEncodeDescRow.holds Try.pinned (OpenSpec.ofChange fnExactEncodeDescWrong)

/- THE SECOND FORM. 'bulk': how many values and letters a reading holds, each counted each time it is reached (what is shared counts as often as it is met; a slice's spare places count too). A statement '..UptoSaid' is the law's where the arguments, and the package variables that the reading takes, are together of bulk at most 1048576: NARROWER than '..Said'. Prove '..Said' where nothing that the law and all that it calls make is longer than what came in: it says more and counts as full. Else prove '..UptoSaid'. A law counts once. -/
mutual
def uptoBulk {H : Type} : DataW H → Nat
  | .lit (.string bytes) => bytes.length + 1
  | .lit _ => 1
  | .nil => 1
  | .ptr d => uptoBulk d + 1
  | .slice elems spare => uptoBulkAll elems + uptoBulkAll spare + 1
  | .agg parts => uptoBulkAll parts + 1
  | .iface _ d => uptoBulk d + 1
  | .map entries => uptoBulkEntries entries + 1
  | .held _ => 1
def uptoBulkAll {H : Type} : List (DataW H) → Nat
  | [] => 0
  | d :: r => uptoBulk d + uptoBulkAll r
def uptoBulkEntries {H : Type} : List (Lit × DataW H) → Nat
  | [] => 0
  | x :: r => uptoBulkEntry x + uptoBulkEntries r
def uptoBulkEntry {H : Type} : Lit × DataW H → Nat
  | (.string bytes, d) => bytes.length + uptoBulk d + 1
  | (_, d) => uptoBulk d + 1
 end
def uptoSmall : (H : Type) → List (DataW H) → Bool := fun _ ds => decide (uptoBulkAll ds ≤ 1048576)
def OpenSpec.upto (s : _root_.Go.ChangeSpec) : _root_.Go.OpenSpec := { _root_.Go.OpenSpec.ofChange s with cond := some uptoSmall }

/-- 'laws.FnExactDescOk', WHERE WHAT IT READS IS OF BULK AT MOST 1048576: true; the input reads as it did. -/
def fnExactDescOkUptoRow : OpenClaim := { program := "ytlhmpbaajaojgaa", sum := "c207f3523c9dae2fe80c7d3b09a5bf2ad60345ffc1521e88992a0450b8145497", func := "loop.example/g03312/laws.FnExactDescOk", spec := "fnExactDescOk", apart := false, narrowed := true }
def FnExactDescOkUptoSaid : Prop := fnExactDescOkUptoRow.holds Try.pinned (OpenSpec.upto fnExactDescOkSpec)

/-- 'laws.FnExactRingUsed', WHERE WHAT IT READS IS OF BULK AT MOST 1048576: true; the input reads as it did. -/
def fnExactRingUsedUptoRow : OpenClaim := { program := "ytlhmpbaajaojgaa", sum := "c207f3523c9dae2fe80c7d3b09a5bf2ad60345ffc1521e88992a0450b8145497", func := "loop.example/g03312/laws.FnExactRingUsed", spec := "fnExactRingUsed", apart := false, narrowed := true }
def FnExactRingUsedUptoSaid : Prop := fnExactRingUsedUptoRow.holds Try.pinned (OpenSpec.upto fnExactRingUsedSpec)

/-- 'laws.FnExactRingOk', WHERE WHAT IT READS IS OF BULK AT MOST 1048576: true; the input reads as it did. -/
def fnExactRingOkUptoRow : OpenClaim := { program := "ytlhmpbaajaojgaa", sum := "c207f3523c9dae2fe80c7d3b09a5bf2ad60345ffc1521e88992a0450b8145497", func := "loop.example/g03312/laws.FnExactRingOk", spec := "fnExactRingOk", apart := false, narrowed := true }
def FnExactRingOkUptoSaid : Prop := fnExactRingOkUptoRow.holds Try.pinned (OpenSpec.upto fnExactRingOkSpec)

/-- 'laws.FnExactRingFree', WHERE WHAT IT READS IS OF BULK AT MOST 1048576: true; the input reads as it did. -/
def fnExactRingFreeUptoRow : OpenClaim := { program := "ytlhmpbaajaojgaa", sum := "c207f3523c9dae2fe80c7d3b09a5bf2ad60345ffc1521e88992a0450b8145497", func := "loop.example/g03312/laws.FnExactRingFree", spec := "fnExactRingFree", apart := false, narrowed := true }
def FnExactRingFreeUptoSaid : Prop := fnExactRingFreeUptoRow.holds Try.pinned (OpenSpec.upto fnExactRingFreeSpec)

/-- 'laws.FnExactSlotAddress', WHERE WHAT IT READS IS OF BULK AT MOST 1048576: true; the input reads as it did. -/
def fnExactSlotAddressUptoRow : OpenClaim := { program := "ytlhmpbaajaojgaa", sum := "c207f3523c9dae2fe80c7d3b09a5bf2ad60345ffc1521e88992a0450b8145497", func := "loop.example/g03312/laws.FnExactSlotAddress", spec := "fnExactSlotAddress", apart := false, narrowed := true }
def FnExactSlotAddressUptoSaid : Prop := fnExactSlotAddressUptoRow.holds Try.pinned (OpenSpec.upto fnExactSlotAddressSpec)

/-- 'laws.FnExactEncodeDesc', WHERE WHAT IT READS IS OF BULK AT MOST 1048576: true; the input reads as it did. -/
def fnExactEncodeDescUptoRow : OpenClaim := { program := "ytlhmpbaajaojgaa", sum := "c207f3523c9dae2fe80c7d3b09a5bf2ad60345ffc1521e88992a0450b8145497", func := "loop.example/g03312/laws.FnExactEncodeDesc", spec := "fnExactEncodeDesc", apart := false, narrowed := true }
def FnExactEncodeDescUptoSaid : Prop := fnExactEncodeDescUptoRow.holds Try.pinned (OpenSpec.upto fnExactEncodeDescSpec)

end Rows
end Go.Proofs.Ytlhmpbaajaojgaa
