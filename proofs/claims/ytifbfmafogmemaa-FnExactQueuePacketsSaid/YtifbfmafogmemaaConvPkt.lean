/- Contracts of the laws' helpers on packets: szSegment, szPacket, toSegment, toPacket. -/
import Derived.Test.YtifbfmafogmemaaMem
import Derived.Test.YtifbfmafogmemaaOpen
namespace Go.Proofs.Ytifbfmafogmemaa
set_option linter.unusedSimpArgs false
set_option linter.unusedVariables false
open Go.RowKit Go.ChangeShapes Go.WideShapes
set_option maxHeartbeats 1000000 in
theorem szSegment_c (kd sp dp sq ak fl wn left : Int) (bd : ByteArray) (w : World) (hz : bd.size ≤ maxLen) (l0 : 0 ≤ left) (l1 : left ≤ 1048576) :
    Calls Try.prog 47 #[.agg #[.int .i64 kd, .int .i64 sp, .int .i64 dp, .int .i64 sq, .int .i64 ak, .int .i64 fl, .int .i64 wn, .string bd], .int .i64 left] w fun e w' => e = .returned (.int .i64 (if (bd.size : Int) ≤ left then left - bd.size else -1)) ∧ Below w.heap.size w w' := by
  unfold maxLen at hz
  by_cases h : (bd.size : Int) ≤ left
  · rw [if_pos h]
    have e1 : ¬ left - (bd.size : Int) < 0 := by omega
    go_enter Try.func47, Try.ntmps47
    go_wp2
    go_ret
    exact ⟨rfl, by go_grown⟩
  · rw [if_neg h]
    have e1 : left - (bd.size : Int) < 0 := by omega
    go_enter Try.func47, Try.ntmps47
    go_wp2
    go_ret
    exact ⟨rfl, by go_grown⟩
set_option maxHeartbeats 1000000 in
theorem szPacket_c (p : Packet) (left : Int) (w : World) (hz : p.seg_body.size ≤ maxLen) (l0 : 0 ≤ left) (l1 : left ≤ 1048576) :
    Calls Try.prog 11 #[.agg #[.int .i64 p.dmac, .int .i64 p.smac, .int .i64 p.vlan, .int .i64 p.tos, .int .i64 p.id, .int .i64 p.ttl, .int .i64 p.sip, .int .i64 p.dip, .int .i64 p.seg_kind, .int .i64 p.seg_sport, .int .i64 p.seg_dport, .int .i64 p.seg_seq, .int .i64 p.seg_ack, .int .i64 p.seg_flags, .int .i64 p.seg_win, .string p.seg_body], .int .i64 left] w fun e w' => e = .returned (.int .i64 (if (p.seg_body.size : Int) ≤ left then left - p.seg_body.size else -1)) ∧ Below w.heap.size w w' := by
  have hs := fun u => szSegment_c p.seg_kind p.seg_sport p.seg_dport p.seg_seq p.seg_ack p.seg_flags p.seg_win left p.seg_body u hz l0 l1
  by_cases h : (p.seg_body.size : Int) ≤ left
  · rw [if_pos h]
    simp only [if_pos h] at hs
    have e1 : ¬ left - (p.seg_body.size : Int) < 0 := by omega
    go_enter Try.func11, Try.ntmps11
    go_wp2_with fail
    refine (hs _).mono ?_
    rintro e w1 ⟨rfl, hb⟩
    have hk : Below w.heap.size w w1 := ext_step (by go_grown) (by go_size) hb
    go_wp2
    go_ret
    exact ⟨rfl, hk⟩
  · rw [if_neg h]
    simp only [if_neg h] at hs
    go_enter Try.func11, Try.ntmps11
    go_wp2_with fail
    refine (hs _).mono ?_
    rintro e w1 ⟨rfl, hb⟩
    have hk : Below w.heap.size w w1 := ext_step (by go_grown) (by go_size) hb
    go_wp2
    go_ret
    exact ⟨rfl, hk⟩
set_option maxHeartbeats 2000000 in
theorem toSegment_c (kd sp dp sq ak fl wn : Int) (bd : ByteArray) (w : World) :
    Calls Try.prog 52 #[.agg #[.int .i64 kd, .int .i64 sp, .int .i64 dp, .int .i64 sq, .int .i64 ak, .int .i64 fl, .int .i64 wn, .string bd]] w fun e w' => e = .returned (.agg #[.int .i64 kd, .int .i64 sp, .int .i64 dp, .int .i64 sq, .int .i64 ak, .int .i64 fl, .int .i64 wn, .string bd]) ∧ Below w.heap.size w w' := by
  go_enter Try.func52, Try.ntmps52
  go_wp2
  go_returns
  exact ⟨rfl, by go_grown⟩
set_option maxRecDepth 100000 in
set_option maxHeartbeats 4000000 in
theorem toPacket_c (p : Packet) (w : World) :
    Calls Try.prog 13 #[.agg #[.int .i64 p.dmac, .int .i64 p.smac, .int .i64 p.vlan, .int .i64 p.tos, .int .i64 p.id, .int .i64 p.ttl, .int .i64 p.sip, .int .i64 p.dip, .int .i64 p.seg_kind, .int .i64 p.seg_sport, .int .i64 p.seg_dport, .int .i64 p.seg_seq, .int .i64 p.seg_ack, .int .i64 p.seg_flags, .int .i64 p.seg_win, .string p.seg_body]] w fun e w' => e = .returned (.agg #[.int .i64 p.dmac, .int .i64 p.smac, .int .i64 p.vlan, .int .i64 p.tos, .int .i64 p.id, .int .i64 p.ttl, .int .i64 p.sip, .int .i64 p.dip, .int .i64 p.seg_kind, .int .i64 p.seg_sport, .int .i64 p.seg_dport, .int .i64 p.seg_seq, .int .i64 p.seg_ack, .int .i64 p.seg_flags, .int .i64 p.seg_win, .string p.seg_body]) ∧ Below w.heap.size w w' := by
  go_enter Try.func13, Try.ntmps13
  go_wp2_with (go_in; skip)
  go_returns
  exact ⟨rfl, by go_grown⟩
end Go.Proofs.Ytifbfmafogmemaa
