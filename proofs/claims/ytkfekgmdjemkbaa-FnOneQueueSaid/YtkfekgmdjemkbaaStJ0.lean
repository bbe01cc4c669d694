/- Contracts: FlowOf, the plain steering of a packet. -/
import Derived.Test.YtkfekgmdjemkbaaStI
import Derived.Deep.RegionWith
namespace Go.Proofs.Ytkfekgmdjemkbaa
set_option linter.unusedSimpArgs false
set_option linter.unusedVariables false
open Go.RowKit Go.ChangeShapes Go.WideShapes
def flowP (p : Packet) : Flow := ⟨p.seg_kind, p.sip, p.dip, p.seg_sport, p.seg_dport⟩
/-- The queue of a packet; -1: dropped. -/
def steerI (rs : List Rule) (l : List Slot) (key : ByteArray) (tb : List Int) (q : Int) (p : Packet) : Int :=
  if (steerB rs l key tb q && superB p) = true then
    (if 0 ≤ ruleI rs p then (match rs[(ruleI rs p).toNat]? with | some r => if r.action = 1 then -1 else r.queue | none => -1)
    else if 0 ≤ soI l (flowP p) then (slt l (soI l (flowP p)).toNat).queue
    else tabI key tb (flowP p))
  else -1
theorem steerB_t {rs : List Rule} {l : List Slot} {key : ByteArray} {tb : List Int} {q : Int} (h : steerB rs l key tb q = true) : rulesB rs = true ∧ tableB l = true ∧ spreadB key tb q = true := by
  simp only [steerB, Bool.and_eq_true] at h
  exact ⟨h.1.1.1.1, h.1.1.1.2, h.1.1.2⟩
theorem flowP_ok {p : Packet} (h : superB p = true) : flowB (flowP p) = true := by
  simp only [superB, segB, Bool.and_eq_true] at h
  simp only [flowB, flowP, Bool.and_eq_true]
  exact ⟨⟨⟨h.1.1.1.2, h.1.1.2⟩, h.1.2.1.1.1⟩, h.1.2.1.1.2⟩
set_option maxHeartbeats 1000000 in
theorem implFlowOf_c (p : Packet) (w : World) :
    Calls Try.prog 22 #[.agg #[.int .i64 p.dmac, .int .i64 p.smac, .int .i64 p.vlan, .int .i64 p.tos, .int .i64 p.id, .int .i64 p.ttl, .int .i64 p.sip, .int .i64 p.dip, .int .i64 p.seg_kind, .int .i64 p.seg_sport, .int .i64 p.seg_dport, .int .i64 p.seg_seq, .int .i64 p.seg_ack, .int .i64 p.seg_flags, .int .i64 p.seg_win, .string p.seg_body]] w fun e w' => e = .returned (.agg #[.int .i64 p.seg_kind, .int .i64 p.sip, .int .i64 p.dip, .int .i64 p.seg_sport, .int .i64 p.seg_dport]) ∧ Below w.heap.size w w' := by
  go_enter Try.func22, Try.ntmps22
  go_wp2
  go_returns
  exact ⟨rfl, by go_grown⟩
set_option maxHeartbeats 1000000 in
theorem specFlowOf_c (p : Packet) (w : World) :
    Calls Try.prog 10 #[.agg #[.int .i64 p.dmac, .int .i64 p.smac, .int .i64 p.vlan, .int .i64 p.tos, .int .i64 p.id, .int .i64 p.ttl, .int .i64 p.sip, .int .i64 p.dip, .int .i64 p.seg_kind, .int .i64 p.seg_sport, .int .i64 p.seg_dport, .int .i64 p.seg_seq, .int .i64 p.seg_ack, .int .i64 p.seg_flags, .int .i64 p.seg_win, .string p.seg_body]] w fun e w' => e = .returned (.agg #[.int .i64 p.seg_kind, .int .i64 p.sip, .int .i64 p.dip, .int .i64 p.seg_sport, .int .i64 p.seg_dport]) ∧ Below w.heap.size w w' := by
  go_enter Try.func10, Try.ntmps10
  go_wp2
  go_returns
  exact ⟨rfl, by go_grown⟩
end Go.Proofs.Ytkfekgmdjemkbaa
