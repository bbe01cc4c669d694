/- Contracts of EthOk, IpOk, SegmentOk, streaming, SuperOk: impl and spec. -/
import Derived.Test.YtkfekgmdjemkbaaIn
import Derived.Test.YtkfekgmdjemkbaaOpen
namespace Go.Proofs.Ytkfekgmdjemkbaa
set_option linter.unusedSimpArgs false
set_option linter.unusedVariables false
open Go.RowKit Go.ChangeShapes Go.WideShapes
def ethB (dst src vl ty : Int) (bd : ByteArray) : Bool := inB dst 0 281474976710655 && inB src 0 281474976710655 && inB vl (-1) 4095 && inB ty 1536 65535 && decide (ty ≠ 33024) && inB (bd.size : Int) 46 400
def ipB (tos id ttl pr si di : Int) (bd : ByteArray) : Bool := inB tos 0 255 && inB ttl 0 255 && inB pr 0 255 && inB id 0 65535 && inB si 0 4294967295 && inB di 0 4294967295 && decide ((bd.size : Int) ≤ 380)
def segB (kd sp dp sq ak fl wn : Int) (bd : ByteArray) : Bool := inB sp 0 65535 && inB dp 0 65535 && decide ((bd.size : Int) ≤ 320) && (if kd = 6 then inB sq 0 4294967295 && inB ak 0 4294967295 && inB fl 0 31 && inB wn 0 65535 else decide (kd = 17) && decide (sq = 0) && decide (ak = 0) && decide (fl = 0) && decide (wn = 0))
/-- Flags of a stream. -/
def strB (fl : Int) : Bool := decide (fl = 16) || decide (fl = 17) || decide (fl = 24) || decide (fl = 25)
def superB (p : Packet) : Bool := inB p.dmac 0 281474976710655 && inB p.smac 0 281474976710655 && inB p.vlan (-1) 4095 && inB p.tos 0 255 && inB p.ttl 0 255 && inB p.id 0 65535 && inB p.sip 0 4294967295 && inB p.dip 0 4294967295 && segB p.seg_kind p.seg_sport p.seg_dport p.seg_seq p.seg_ack p.seg_flags p.seg_win p.seg_body && (decide ((p.seg_body.size : Int) ≤ 128) || (decide (p.seg_kind = 6) && strB p.seg_flags))
set_option maxHeartbeats 2000000 in
theorem implSegmentOk_c (kd sp dp sq ak fl wn : Int) (bd : ByteArray) (w : World) (hz : bd.size ≤ 1048576) :
    Calls Try.prog 46 #[.agg #[.int .i64 kd, .int .i64 sp, .int .i64 dp, .int .i64 sq, .int .i64 ak, .int .i64 fl, .int .i64 wn, .string bd]] w fun e w' => e = .returned (.bool (segB kd sp dp sq ak fl wn bd)) ∧ Below w.heap.size w w' := by
  go_enter Try.func46, Try.ntmps46
  go_wp2_with (go_at_call 28; refine (between_c _ _ _ _).mono ?_; rintro e w' ⟨rfl, rfl⟩)
  all_goals ((try simp only [beq_iff_eq, beq_eq_false_iff_ne, ne_eq] at *); go_ret; exact ⟨ret_bool (by unfold segB; split <;> first | contradiction | (simp [*]; done) | (simp [*]; omega) | (simp [*, Bool.beq_eq_decide_eq]; done)), by go_grown⟩)
set_option maxHeartbeats 2000000 in
theorem specSegmentOk_c (kd sp dp sq ak fl wn : Int) (bd : ByteArray) (w : World) (hz : bd.size ≤ 1048576) :
    Calls Try.prog 61 #[.agg #[.int .i64 kd, .int .i64 sp, .int .i64 dp, .int .i64 sq, .int .i64 ak, .int .i64 fl, .int .i64 wn, .string bd]] w fun e w' => e = .returned (.bool (segB kd sp dp sq ak fl wn bd)) ∧ Below w.heap.size w w' := by
  go_enter Try.func61, Try.ntmps61
  go_wp2_with (go_at_call 60; refine (l01In_c _ _ _ _).mono ?_; rintro e w' ⟨rfl, rfl⟩)
  all_goals ((try simp only [beq_iff_eq, beq_eq_false_iff_ne, ne_eq] at *); go_ret; exact ⟨ret_bool (by unfold segB; split <;> first | contradiction | (simp [*]; done) | (simp [*]; omega) | (simp [*, Bool.beq_eq_decide_eq]; done)), by go_grown⟩)
end Go.Proofs.Ytkfekgmdjemkbaa
